/- The program's Pack: walked. The document's Packed: its items. The document's Packed: walked. Sweeping, plain. No program in sight. The program's Sweep: walked. FlowSweeps, walked. The room that a walk takes: with just so much it goes well again. No program in sight. bounds: walked. FlowBounds, walke -/
import Derived.Test.YtplmnkogkfhaiaaGreatQ9
import Derived.Test.YtplmnkogkfhaiaaGreatQ1
set_option linter.unusedVariables false
set_option linter.unusedSimpArgs false
set_option maxRecDepth 100000
namespace Go.Gx
open Go.Proofs List
attribute [local irreducible] shaL cutD frontL
def packR (s:AS) (r:Int×WS) (of:List (List UInt8)):List UInt8×Int:=if r.1≠0 then ([],r.1) else if (packB s.k (of.map fun d=>(s.get d).1)).length≤4194304 then (packB s.k (of.map fun d=>(s.get d).1),0) else ([],2)
theorem Step.kDrop{S:List Nat}{A B C X:List (Nat×Obj)}{w w':World} (h:Step S (A++(B++(C++X))) w w'):Step S (A++X) w w':=Step.dropL (L1:=B++C) (h.perm (by classical exact perm_iff_count.2 fun x=>by simp only[count_append];omega))
theorem Step.k3{S:List Nat}{a p q:Nat×Obj}{A B E Z X:List (Nat×Obj)}{w w':World} (h:Step S (a::(A++(B++(E++((p::q::Z)++X))))) w w'):Step S [a,p,q] w w':=Step.dropR (L1:=[a,p,q]) (L2:=A++(B++(E++(Z++X)))) (h.perm (by classical exact perm_iff_count.2 fun x=>by simp only[count_append,count_cons,count_nil];omega))
theorem Step.k4{S:List Nat}{a p q:Nat×Obj}{A B E Z X:List (Nat×Obj)}{w w':World} (h:Step S (A++(a::(B++(E++((p::q::Z)++X))))) w w'):Step S [a,p,q] w w':=Step.dropR (L1:=[a,p,q]) (L2:=A++(B++(E++(Z++X)))) (h.perm (by classical exact perm_iff_count.2 fun x=>by simp only[count_append,count_cons,count_nil];omega))
theorem Step.noM{S:List Nat}{L1 M X:List (Nat×Obj)}{w w':World} (h:Step S (L1++(M++X)) w w'):Lives (L1++X) w':=Lives.of (L2:=M) (h.perm (by classical exact perm_iff_count.2 fun x=>by simp only[count_append];omega))
def pcs (s:AS) (n:Nat) (l:List (List UInt8)):List (List (List UInt8)):=[[formB 5],[formB s.k],[formB n]]++l.map fun d=>[formB (s.get d).1.length,(s.get d).1]
theorem pcs_snoc (s:AS) (n:Nat) (l:List (List UInt8)) (d:List UInt8):pcs s n (l++[d])=pcs s n l++[[formB (s.get d).1.length,(s.get d).1]]:=by simp[pcs]
theorem pcs_packB (s:AS) (l:List (List UInt8)):(pcs s l.length l).flatMap List.flatten=packB s.k (l.map fun d=>(s.get d).1):=by
 have h:∀l:List (List UInt8),(l.map fun d=>[formB (s.get d).1.length,(s.get d).1]).flatMap List.flatten=(l.map fun d=>(s.get d).1).flatMap fun x=>formB x.length++x:=by
  intro l
  induction l with
  | nil=>rfl
  | cons x l ih=>rw[map_cons,flatMap_cons,ih,map_cons,flatMap_cons];simp
 rw[pcs,flatMap_append,h,packB,length_map]
 simp[append_assoc]
section
variable{bp:Nat}{s:AS}{D L:List (Nat×Obj)}{d:List UInt8}{w0:World}{rn rd rb:Int}{N k:Nat}{gf of:List (List UInt8)}
set_option maxHeartbeats 8000000 in
theorem pack_spec (hR:PRep bp s D L) (ok:s.Ok) (hfew:s.Few N) (hN:N<1000000000000) (hd:d.length=32) (hrm:(rmOf rn rd rb).Ok) (hG:(runs s (rmOf rn rd rb) [rootS d] ws0).1=0→Goes (partsM s (runs s (rmOf rn rd rb) [rootS d] ws0).2.m) [d] [] [] gf of k) (hw:Lives (L++D) w0) :
  CP 33 #[.pointer (some ⟨bp,0,none⟩),.agg (u8s d).toArray,.agg #[.int .i64 rn,.int .i64 rd,.int .i64 rb]] w0 fun e w'=>∃v Lv L' D',e=.returned (.tuple #[v,.int .i64 (packR s (runs s (rmOf rn rd rb) [rootS d] ws0) of).2])∧
   PRep bp (s.gotN (runs s (rmOf rn rd rb) [rootS d] ws0).2.g) (D'++D) L'∧OwnSl 5 1 v (packR s (runs s (rmOf rn rd rb) [rootS d] ws0) of).1.length (u8s (packR s (runs s (rmOf rn rd rb) [rootS d] ws0) of).1) Lv∧Step (L.map (·.1)) (L'++(Lv++D')) w0 w':=by
 have hw9:=fun{w1:World} h=>fwalk_spec (w0:=w1) hR ok hfew hN hd hrm h
 have hmet:=fun{t:WS} h=>runs_met (s:=s) (rm:=rmOf rn rd rb) (t:=t) hd h
 have ob:∃r,runs s (rmOf rn rd rb) [rootS d] ws0=r:=⟨_,rfl⟩
 obtain⟨r,hr⟩:=ob
 rw[hr] at hw9 hG⊢
 have hdl:(u8s d).length=32:=by rw[u8s,length_map,hd]
 have hs:Step (List.map (·.1) (L++D)) (L++D) w0 w0:=hw
 refine calls (n:=56) Tryz.func33 rfl rfl rfl ?_
 refine sr<|WL.box (cs:=u8s d) rfl rfl rfl hs (fun b4 w hs=>?_)
 refine WL.box (cs:=[.int .i64 rn,.int .i64 rd,.int .i64 rb]) rfl rfl rfl hs (fun b5 w hs=>?_)
 refine wA<|wA<|wZ<|sr<|wm<|wV (run_loadN ty44 rfl hdl hs.a1)<|wV (run_loadN ty30 rfl rfl hs.a0)<|wE rfl (run_call en64 rfl rfl) (hw9 (Lives.mk hs.tail.tail)) ?_
 rintro e w ⟨v,L1,D1,M,rfl,hP,hM,hnil,hq⟩
 refine⟨_,rfl,?_⟩
 replace hs:=Own.put (A:=[_,_]) (L:=L) hs hq
 refine wm<|wx rfl rfl<|wx rfl rfl<|wA<|wA<|wZ ?_
 replace hs:=hs.tail.tail
 by_cases he:r.1≠0
 ·have hre:packR s r of=([],r.1):=if_pos he
  rw[hre]
  refine cq<|sr<|wm<|wV (run_bT (run_neq rfl rfl) (by exact he))<|wZ<|CW.cond rfl (fun h=>?_) (fun h=>?_)
  ·refine sr<|wm<|wA<|wA<|wZ<|CW.ret ?_
   refine fin_ret2 rfl ?_
   exact⟨_,[],L1,M++D1,rfl,by rw[append_assoc];exact hP.mono mem_right,OwnSl.nil _ _,Step.fin (M:=[]) hw hs⟩
  ·cases h
 have he0:r.1=0:=by simpa using he
 have hmet:=hmet (t:=r.2) (by rw[hr,←he0])
 have ob:=hM he0
 obtain⟨bm,rfl,hMet⟩:=ob
 refine cq<|sr<|wm<|wV (run_bF (run_neq rfl rfl) (by exact he))<|wZ<|CW.cond rfl (fun h=>?_) (fun h=>?_)
 ·cases h
 have hgd:=standP_good (s:=s) (rm:=rmOf rn rd rb) hrm 34 (x:=rootS d) (t:=ws0) (ws0_good.mono (by omega))
 rw[←runs_root,hr] at hgd
 have hgd:=hgd he0
 have hml:r.2.m.length≤65536:=Nat.le_trans hgd.m hgd.n
 rw[append_assoc] at hs
 refine ck<|sr<|wm<|wE rfl (run_call en70 rfl rfl) (behind_spec hMet (Lives.mk (Step.dropL (L1:=L1) hs)) hmet.len hmet.sub (partsM_len s _) hml hmet.head (hG he0)) ?_
 rintro e w ⟨vo,Lo,rfl,hvo,hq⟩
 refine⟨_,rfl,?_⟩
 replace hs:=Step.call0 hs hq
 refine wA<|wZ ?_
 have ob:=hvo.form
 obtain⟨oa,oc,rfl⟩:=ob
 refine sr<|wE rfl (run_call en84 rfl rfl) (mnew_spec _) ?_
 rintro e w ⟨bw,Lw,rfl,hWr,hq⟩
 refine⟨_,rfl,?_⟩
 replace hs:=Step.call0 hs hq
 refine wA<|wZ<|sr<|wm<|wE rfl (run_call en85 rfl rfl) (num_spec 5 _ (by omega) hWr (Step.own hs) (by simp)) ?_
 rintro e w ⟨rfl,Lw1,hWr1,hq⟩
 refine⟨_,rfl,?_⟩
 replace hs:=Step.call (L1:=Lw) hs hq
 refine wZ ?_
 have hk1:=ok.k1
 have hk2:=ok.k2
 have hwid:=fun{w:World} (h:Step (List.map (·.1) (L++D)) (Lw1++(Lo++(L1++(M++(D1++D))))) w0 w)=>width_abs hP (ok.gotN _) (Step.noM (Step.dropL (L1:=Lo) (Step.dropL (L1:=Lw1) h)))
 have ob:=hmet.of_le (hG he0)
 obtain⟨hol,hofU⟩:=ob
 refine sr<|wm<|wm<|wE rfl (run_call en69 rfl rfl) (hwid hs) ?_
 rintro e w ⟨rfl,hq⟩
 refine⟨_,rfl,?_⟩
 replace hs:=hs.callE hq
 refine wE rfl (run_call en85 rfl rfl) (num_spec s.k _ (by omega) hWr1 (Step.own hs) (addAll_le [[formB 5]] [] 0 (by simp))) ?_
 rintro e w ⟨rfl,Lw2,hWr2,hq⟩
 refine⟨_,rfl,?_⟩
 replace hs:=Step.call (L1:=Lw1) hs hq
 refine wZ<|sr<|wm<|wm<|wV (run_lenSl u35 rfl)<|wE rfl (run_call en85 rfl rfl) (num_spec of.length _ (by omega) hWr2 (Step.own hs) (addAll_le [[formB 5],[formB s.k]] [] 0 (by simp))) ?_
 rintro e w ⟨rfl,Lw3,hWr3,hq⟩
 refine⟨_,rfl,?_⟩
 replace hs:=Step.call (L1:=Lw2) hs hq
 refine wZ<|CW.seqM (fun f w=>∃Lw',Wr bw (addAll (pcs s of.length of) [] 0).1 (addAll (pcs s of.length of) [] 0).2 Lw'∧Step (List.map (·.1) (L++D)) (Lw'++(Lo++(L1++(M++(D1++D))))) w0 w∧Holds f [(0,.pointer (some ⟨bp,0,none⟩)),(11,.pointer (some ⟨bw,0,none⟩))]) ?_ ?_
 ·refine sr<|wm<|wV (run_lenSl u35 rfl)<|wm<|wZ<|cB<|CW.loop (fun z f w'=>∃i Lw',i≤of.length∧z=of.length - i∧Wr bw (addAll (pcs s of.length (of.take i)) [] 0).1 (addAll (pcs s of.length (of.take i)) [] 0).2 Lw'∧Step (List.map (·.1) (L++D)) (Lw'++(Lo++(L1++(M++(D1++D))))) w0 w'∧Holds f [(0,.pointer (some ⟨bp,0,none⟩)),(8,.pointer (some ⟨bm,0,none⟩)),(11,.pointer (some ⟨bw,0,none⟩)),(37,.slice oa of.length oc),(38,.int .i64 (of.length:Nat)),(39,.int .i64 (i:Nat))]) (m:=of.length) ?_ ?_
  ·exact⟨0,Lw3,Nat.zero_le _,rfl,hWr3,hs,rfl,rfl,rfl,rfl,rfl,rfl,trivial⟩
  clear hs
  rintro z f w ⟨i,Lw',hil,rfl,hWr',hs,hf⟩
  have ob:=hf.chain
  obtain⟨g,rfl⟩:=ob
  by_cases hlt:i<of.length
  ·have ob:∃x,of[i]?=some x:=⟨_,getElem?_eq_getElem hlt⟩
   obtain⟨x,hx⟩:=ob
   have hxU:=hofU x (mem_of_getElem? hx)
   have hx32:=hmet.len x hxU
   have hxl:(u8s x).length=32:=by rw[u8s,length_map,hx32]
   have hgx:=get_len ok x
   have ob:=hvo.some1 (by omega)
   obtain⟨bu,cu,more,hu1,hu2,hu3⟩:=ob
   cases hu1
   subst hu2
   have hxat:At w bu (0+i*32) (u8s x):=digsL_at (fun y hy=>hmet.len y (hofU y hy)) (At.of_blk (hs.has (bu,blk 44 (digsL of++more)) (by simp))).left hx
   obtain⟨vO,LO,q1,M1,c1,q2,M2,c2,rfl,hO,hB,hPm⟩:=hMet
   have hbv:=hB.val x
   obtain⟨u,hu,hHl⟩:∃u,((findD x M1 0).map (·.2)).getD (.slice none 0 0)=u∧Held (D1++D) u (s.get x).1:=by
    cases hv:valD x M1 with
    | none=>rw[hv] at hbv;exact absurd hxU hbv
    | some u=>
     rw[hv] at hbv
     refine⟨u,?_,hbv.2⟩
     show(valD x M1).getD _=_
     rw[hv];rfl
   refine sr<|wV (run_bT (run_lss rfl rfl) (by omega))<|wZ<|cq<|CW.cond rfl (fun h=>?_) (fun h=>?_)
   ·refine ck<|cq<|cB<|sr<|wV (run_ixSlN u35 ty44 rfl rfl (by omega))<|wV (run_loadN ty44 rfl hxl hxat)<|WL.alloc ty44 rfl hs (fun b13 w hs=>?_)
    refine WL.storeAll ty44 rfl rfl ((hxl)) ((Cells1.u8s _)) hs (by rfl) (fun w hs=>?_)
    refine wZ ?_
    have ob:∃X,(L1++(((bm,blk 132 [vO,.map (some q1),.map (some q2)])::(q1,mapObj M1 c1)::(q2,mapObj M2 c2)::LO)++(D1++D)))=X:=⟨_,rfl⟩
    obtain⟨X,hX⟩:=ob
    have ob:=id hHl
    obtain⟨Lv,hOv,hsub⟩:=ob
    have hDX:∀p∈Lv,p∈X:=fun p hp=>hX▸mem_append_right _ (mem_append_right _ (hsub p hp))
    have hk3:∀{w:World},Step (List.map (·.1) (L++D)) ((b13,blk 44 (u8s x))::(Lw'++([(bu,blk 44 (digsL of++more))]++X))) w0 w→Step (List.map (·.1) (L++D)) [(b13,blk 44 (u8s x)),(bm,blk 132 [vO,.map (some q1),.map (some q2)]),(q1,mapObj M1 c1)] w0 w:=fun h=>Step.k3 (by rw[←hX] at h;exact h)
    have hk4:∀{Y:List (Nat×Obj)}{w:World},Step (List.map (·.1) (L++D)) (Y++((b13,blk 44 (u8s x))::([(bu,blk 44 (digsL of++more))]++X))) w0 w→Step (List.map (·.1) (L++D)) [(b13,blk 44 (u8s x)),(bm,blk 132 [vO,.map (some q1),.map (some q2)]),(q1,mapObj M1 c1)] w0 w:=fun h=>Step.k4 (by rw[←hX] at h;exact h)
    rw[hX] at hs
    have hby:=fun{w:World} (h:Step (List.map (·.1) (L++D)) ((b13,blk 44 (u8s x))::(Lw'++([(bu,blk 44 (digsL of++more))]++X))) w0 w)=>bytes_spec (u:=u) (s:=(s.get x).1) w hWr' (Step.own (L1:=Lw') (Step.pIn h)) (addAll_le _ [] 0 (by simp)) (hOv.slH fun p hp=>h.has p (by simp[hDX p hp])) (hOv.outside fun p hp=>(Step.append_comm (Step.pIn h)).disj p (by simp[hDX p hp])) (by omega)
    have htk:of.take (i+1)=of.take i++[x]:=by rw[take_add_one,hx];rfl
    refine CW.any (A:=fun w=>Step (List.map (·.1) (L++D)) [(b13,blk 44 (u8s x)),(bm,blk 132 [vO,.map (some q1),.map (some q2)]),(q1,mapObj M1 c1)] w0 w) (C:=fun w=>Step (List.map (·.1) (L++D)) [(b13,blk 44 (u8s x)),(bm,blk 132 [vO,.map (some q1),.map (some q2)]),(q1,mapObj M1 c1)] w0 w) 1000000 8 mixedP rfl ?_
    replace hs:=hs.drew
    refine aM 0 rfl<|aM 1 rfl<|aV 2 rfl (fun w hs=>run_nilCheck rfl)<|aV 3 rfl (fun w hs=>run_field (o':=1) u132 rfl ty129 rfl rfl rfl)<|aV 4 rfl (fun w hs=>run_load1 ty129 rfl (hs.c1 (v:=.map (some q1)) rfl))<|aV 5 rfl (fun w hs=>run_loadN ty44 rfl hxl hs.a0)<|aV 6 rfl (fun w hs=>run_lookupV u129 (zBytes _) hB.keys hx32 hu rfl rfl (hs.has (q1,mapObj M1 c1) (by simp)))<|AL.one 7 (by kernel_rfl) rfl (by exact hk3 hs) (by exact hk3 hs) ?_
    refine wE rfl (run_call en86 rfl rfl) (hby hs) ?_
    rintro e w ⟨rfl,Lw5,hW5,hq⟩
    refine⟨_,rfl,?_⟩
    replace hs:=Step.call (L1:=Lw') (Step.pIn hs) hq
    refine wZ<|⟨rfl,?_⟩
    refine AL.end (by kernel_rfl) (by exact hk4 hs) (by exact hk4 hs) ?_
    refine cr<|wV (run_add (c:=((i+1:Nat):Int)) rfl rfl (by omega) (by omega))<|wm<|wZ ?_
    have hs2:=Step.pOut hs
    rw[←hX] at hs2
    refine(show _∧_ from⟨rfl,_,?_,i+1,Lw5,hlt,rfl,?_,hs2,rfl,rfl,rfl,rfl,rfl,rfl,trivial⟩)
    ·omega
    ·rw[htk,pcs_snoc,addAll_snoc];exact hW5
   ·cases h
  ·obtain rfl:i=of.length:=by omega
   rw[take_length] at hWr'
   refine sr<|wV (run_bF (run_lss rfl rfl) (by omega))<|wZ<|cq<|CW.cond rfl (fun h=>?_) (fun h=>?_)
   ·cases h
   refine CW.exit ?_
   exact⟨rfl,Lw',hWr',hs,rfl,rfl,trivial⟩
 clear hs
 rintro f w ⟨Lw4,hWr4,hs,hf⟩
 have ob:=hf.chain
 obtain⟨g,rfl⟩:=ob
 have hal:=addAll_ok (pcs s of.length of) [] (by simp)
 rw[pcs_packB,length_nil,Nat.zero_add,nil_append] at hal
 by_cases hfit:(packB s.k (of.map fun d=>(s.get d).1)).length≤4194304
 ·have hre:packR s r of=(packB s.k (of.map fun d=>(s.get d).1),0):=by rw[packR,if_neg he,if_pos hfit]
  rw[hre]
  rw[hal.2 hfit,hal.1,if_pos hfit] at hWr4
  refine sr<|wm<|wE rfl (run_call en87 rfl rfl) (done_ok _ hWr4 (Step.own hs) hfit) ?_
  rintro e w ⟨v',Lv',rfl,hv',hq⟩
  refine⟨_,rfl,?_⟩
  replace hs:=Step.call0 hs hq
  refine wx rfl rfl<|wx rfl rfl<|wA<|wA<|wZ<|CW.ret ?_
  refine fin_ret2 rfl ?_
  exact⟨v',Lv',L1,M++D1,rfl,by rw[append_assoc];exact hP.mono mem_right,hv',Step.fin (M:=Lv') hw (by rw[append_assoc];exact Step.kDrop hs)⟩
 ·have hre:packR s r of=([],2):=by rw[packR,if_neg he,if_neg hfit]
  rw[hre]
  rw[hal.1,if_neg hfit] at hWr4
  refine sr<|wm<|wE rfl (run_call en87 rfl rfl) (done_bad _ hWr4 (Step.own hs) (by decide)) ?_
  rintro e w ⟨rfl,hq⟩
  refine⟨_,rfl,?_⟩
  replace hs:=hs.callE hq
  refine wx rfl rfl<|wx rfl rfl<|wA<|wA<|wZ<|CW.ret ?_
  refine fin_ret2 rfl ?_
  exact⟨_,[],L1,M++D1,rfl,by rw[append_assoc];exact hP.mono mem_right,OwnSl.nil _ _,Step.fin (M:=[]) hw (by rw[append_assoc];exact Step.dropL (L1:=Lo) (Step.dropL (L1:=Lw4) hs))⟩
end
end Go.Gx
namespace Go.Gx
open Go.Proofs List
def pkI (k n:Nat) (B:List (Value×List UInt8)):List Wit:=[⟨1,5,.slice none 0 0,[]⟩,⟨1,k,.slice none 0 0,[]⟩,⟨1,n,.slice none 0 0,[]⟩]++B.map fun t=>⟨4,0,t.1,t.2⟩
def packE (b:List UInt8):List UInt8×Int:=if b.length≤4194304 then (b,0) else ([],2)
end Go.Gx
namespace Go.Gx
open Go.Proofs List
attribute [local irreducible] shaL cutD frontL
section
variable{s:AS}{rm:Rm}{g:Nat}
theorem visit_gotN (x:Std) (t:WS):visit (s.gotN g) rm x t=visit s rm x t:=rfl
theorem standP_gotN:∀(n:Nat) (x:Std) (t:WS),standP (s.gotN g) rm n x t=standP s rm n x t
 | 0,_,_=>rfl
 | n+1,x,t=>by
  rw[standP,standP,visit_gotN]
  split
  ·rfl
  ·exact seqS_congr fun y _ u=>standP_gotN n y (push y u)
theorem runs_gotN (l:List Std) (t:WS):runs (s.gotN g) rm l t=runs s rm l t:=seqS_congr fun y _ u=>standP_gotN _ y (push y u)
end
def sweepW (s:AS) (rm:Rm):List (List UInt8)→Nat→List (List UInt8)→Int×Nat×List (List UInt8)
 | [],g,m=>(0,g,m)
 | d::l,g,m=>if (runs s rm [rootS d] ws0).1≠0 then ((runs s rm [rootS d] ws0).1,g+(runs s rm [rootS d] ws0).2.g,m) else sweepW s rm l (g+(runs s rm [rootS d] ws0).2.g) (m++ordM (runs s rm [rootS d] ws0).2.m)
def goneL (m l:List (List UInt8)):List (List UInt8):=l.filter fun d=>decide (d∉m)
def evAll (s:AS) (l:List (List UInt8)):AS:=l.foldl AS.evict s
def sweepR (s:AS) (rm:Rm) (roots:List (List UInt8)):Nat×Int×AS:=
 if 65536<roots.length then (0,2,s)
 else if (sweepW s rm roots 0 []).1≠0 then (0,(sweepW s rm roots 0 []).1,s.gotN (sweepW s rm roots 0 []).2.1)
 else ((goneL (sweepW s rm roots 0 []).2.2 (s.X.map (·.d))).length,0,evAll (s.gotN (sweepW s rm roots 0 []).2.1) (goneL (sweepW s rm roots 0 []).2.2 (s.X.map (·.d))))
theorem findX_del{d e:List UInt8} (h:d≠e):∀X:List Blb,findX d (delX e X)=findX d X
 | []=>rfl
 | b::X=>by
  have ih:=findX_del h X
  by_cases hb:b.d=e
  ·have h1:delX e (b::X)=delX e X:=by simp[delX,hb]
   have h2:findX d (b::X)=findX d X:=by
    rw[findX,List.find?_cons]
    have:decide (b.d=d)=false:=by rw[hb];exact decide_eq_false fun h'=>h h'.symm
    rw[this]
    rfl
   rw[h1,h2,ih]
  ·have h1:delX e (b::X)=b::delX e X:=by simp[delX,hb]
   rw[h1,findX,findX,List.find?_cons,List.find?_cons]
   rw[findX,findX] at ih
   rw[ih]
theorem gotN_add (s:AS) (a b:Nat):(s.gotN a).gotN b=s.gotN (a+b):=by simp[AS.gotN,Nat.add_assoc]
section
variable{S:List Nat}{a b c e p q:Nat×Obj}{A B C X Y:List (Nat×Obj)}{w w':World}
end
section
variable{bp:Nat}{s:AS}{D L Lr:List (Nat×Obj)}{roots:List (List UInt8)}{v:Value}{w0:World}{rn rd rb:Int}{N:Nat}
end
end Go.Gx
namespace Go.Gx
open Go.Proofs Go.RowKit List
attribute [local irreducible] shaL cutD frontL
def nums (l:List Int):List Value:=l.map fun z=>.int .i64 z
structure Nums (w:World) (v:Value) (l:List Int):Prop where
 sl:Sl w 1 v l.length (nums l)
 rng:∀z∈l,-9223372036854775808≤z∧z≤9223372036854775807
 len:l.length≤9223372036854775807
section
variable{α:Type}{a b c e f:α}{A B C D:List α}
end
section
variable{wd rn rd rb:Int}{x:Stup}{v:Value}{l:List Int}
end
end Go.Gx
namespace Go.Gx
open Go.Proofs List
attribute [local irreducible] shaL cutD frontL decL decE
def slsh (p:List UInt8):Nat:=p.count 47
structure Pth (x:Std):Prop where
 z:x.dep=0→x.p=[]
 s:x.dep≠0→x.p≠[]∧slsh x.p+1=x.dep
 l:x.p.length≤65*x.dep
structure PLe (t u:WS):Prop where
 n:t.n≤u.n
 b:t.b≤u.b
 l:∀i∈t.l,i∈u.l
section
variable{s:AS}{rm rm':Rm}
end
def deepL (l:List WI):Nat:=l.foldl (fun m i=>max m (slsh i.p+1)) 0
def rmG:Rm:=rmOf 65536 32 67108864
theorem rmG_ok:rmG.Ok:=⟨by decide,by decide,by decide⟩
end Go.Gx
namespace Go.Gx
open Go.Proofs List
attribute [local irreducible] shaL cutD frontL
section
variable{P:Program}{f:Slots}{w:World}{d:Option Tmp}{ty:TypeId}{pos:String}{af:Array Edge}{x y:Operand}{ats:Array TypeId}{k:IntKind}{a b c:Int}
end
theorem great_spec (w0:World):CP 28 #[] w0 (Ret0 (.agg #[.int .i64 65536,.int .i64 32,.int .i64 67108864]) w0):=by
 have hs:Step [] [] w0 w0:=Step.refl w0
 refine calls (n:=2) Tryz.func28 rfl rfl rfl ?_
 refine sr<|WL.alloc ty30 rfl hs (fun b0 w hs=>?_)
 refine wZ<|sr<|wV (run_build rfl (bld_room _ _ _ _))<|WL.storeAll ty30 rfl rfl ((by rfl)) ((Cells1.of_all rfl)) hs (by rfl) (fun w hs=>?_)
 refine wZ<|CW.ret ?_
 refine fin_cell1 rfl rfl (run_loadVarN ty30 (by rfl) hs.a0) ?_
 exact⟨rfl,hs.clear⟩
def bndV (r:Int×WS):Value:=if r.1=0 then .tuple #[.agg #[.int .i64 (r.2.n:Nat),.int .i64 (deepL r.2.l:Nat),.int .i64 (r.2.b:Nat)],.bool true] else .tuple #[.agg #[.int .i64 0,.int .i64 0,.int .i64 0],.bool false]
section
variable{bw bp br N:Nat}{s:AS}{D R:List (Nat×Obj)}{d:List UInt8}{vR:Value}{w0:World}
end
end Go.Gx
namespace Go.Gx
open Go.Proofs Go.RowKit List
attribute [local irreducible] shaL cutD frontL
theorem packR_gotN{s:AS}{g:Nat}{r:Int×WS}{of:List (List UInt8)}:packR (s.gotN g) r of=packR s r of:=rfl
theorem partsM_gotN{s:AS}{g:Nat}{m:List (List UInt8×Bool)}:partsM (s.gotN g) m=partsM s m:=rfl
def rN (n:Int) (i:Nat):Int:=if i=1 then n - 1 else n
def rD (n:Int) (i:Nat):Int:=if i=2 then n - 1 else n
def rB (n:Int) (i:Nat):Int:=if i=3 then n - 1 else n
section
variable{α:Type}{a b c e f g:α}{A B C D:List α}
end
section
variable{wd z:Int}{x:Stup}
end
end Go.Gx
namespace Go.Gx
open Go.Proofs List
attribute [local irreducible] shaL cutD frontL
structure LdK (b3 b8 b9 b10 b11 b12 b13 bp:Nat) (rm:Rm) (D:List (Nat×Obj)):Prop where
 m3:(b3,blk 39 [.pointer (some ⟨bp,0,none⟩)])∈D
 m9:(b9,blk 3 [.int .i64 rm.d])∈D
 m12:(b12,blk 150 [.func (.func 75) #[] #[.pointer (some ⟨b9,0,none⟩),.pointer (some ⟨b10,0,none⟩),.pointer (some ⟨b3,0,none⟩)]])∈D
 m13:(b13,blk 151 [.func (.func 77) #[] #[.pointer (some ⟨b12,0,none⟩),.pointer (some ⟨b8,0,none⟩),.pointer (some ⟨b13,0,none⟩),.pointer (some ⟨b11,0,none⟩)]])∈D
def LdW (b8 b10 b11:Nat) (rm:Rm) (t:WS) (D W:List (Nat×Obj)):Prop:=
 ∃vL LL T,W=(b8,blk 65 [vL])::(b10,blk 3 [.int .i64 (rm.n - t.n)])::(b11,blk 3 [.int .i64 (rm.b - t.b)])::LL∧OwnSl 155 3 vL t.l.length (rowsW T) LL∧T.map (·.1)=t.l∧∀u∈T,Held D u.2 u.1.x
section
variable{b3 b8 b9 b10 b11 b12 b13 bp N:Nat}{rm:Rm}{s:AS}{t:WS}{x:Std}{D D' W L:List (Nat×Obj)}{w0:World}
theorem LdK.mono (h:LdK b3 b8 b9 b10 b11 b12 b13 bp rm D) (hD:∀p∈D,p∈D'):LdK b3 b8 b9 b10 b11 b12 b13 bp rm D':=⟨hD _ h.m3,hD _ h.m9,hD _ h.m12,hD _ h.m13⟩
theorem LdW.mono (h:LdW b8 b10 b11 rm t D W) (hD:∀p∈D,p∈D'):LdW b8 b10 b11 rm t D' W:=by
 obtain⟨vL,LL,T,h1,h2,h3,h4⟩:=h
 exact⟨vL,LL,T,h1,h2,h3,fun u hu=>(h4 u hu).mono hD⟩
theorem Step.inD{S:List Nat}{A W L D:List (Nat×Obj)}{b o:Nat}{T:TypeId}{cs:List Value}{v:Value}{w w':World} (h:Step S (A++(W++(L++D))) w w') (hm:(b,blk T cs)∈D) (ho:cs[o]?=some v):w'.cell? ⟨b,o,none⟩=some v:=
 h.inCell (mem_append_right _ (mem_append_right _ (mem_append_right _ hm))) ho
theorem ldget_spec (hK:LdK b3 b8 b9 b10 b11 b12 b13 bp rm D) (hW:LdW b8 b10 b11 rm t D W) (hR:PRep bp (s.gotN t.g) D L) (ok:s.Ok) (hrm:rm.Ok) (hfew:s.Few N) (hN:N<1000000000000) (hg:t.Good 1) (hd:x.d.length=32) (hdep:x.dep≤34) (hw:Lives (W++(L++D)) w0) :
  CP 75 #[.agg (u8s x.d).toArray,.int .i64 (x.dep:Nat),.pointer (some ⟨b9,0,none⟩),.pointer (some ⟨b10,0,none⟩),.pointer (some ⟨b3,0,none⟩)] w0 fun e w'=>∃v y Lv W' L',e=.returned (.tuple #[v,.int .i64 (look s rm x t).1])∧OwnSl 5 1 v y.length (u8s y) Lv∧
   ((look s rm x t).1=0→y=(s.get x.d).1)∧((look s rm x t).1=0→LdW b8 b10 b11 rm (look s rm x t).2 D W')∧PRep bp (s.gotN (look s rm x t).2.g) D L'∧Step ((W++L).map (·.1)) (W'++(L'++Lv)) w0 w':=by
 obtain⟨vL,LL,T,rfl,hvL,hT,hTD⟩:=hW
 have hn1:=hg.n
 have hg1:=hg.g
 have hrn:=hrm.n
 have hrd:=hrm.d
 have hdl:(u8s x.d).length=32:=by rw[u8s,length_map,hd]
 have hs:Step _ ((b8,blk 65 [vL])::(b10,blk 3 [.int .i64 (rm.n - t.n)])::(b11,blk 3 [.int .i64 (rm.b - t.b)])::(LL++(L++D))) w0 w0:=hw
 refine calls (n:=21) Tryz.func75 rfl rfl rfl ?_
 refine sr<|WL.box (cs:=u8s x.d) rfl rfl rfl hs (fun b5 w hs=>?_)
 refine wA<|wA<|wZ ?_
 by_cases c1:rm.d<x.dep
 ·have hlk:look s rm x t=(33,t):=if_pos c1
  rw[hlk]
  refine cq<|sr<|wm<|wl ty3 rfl ((Step.inD (A:=[_]) (W:=_::_::_::LL) hs hK.m9 rfl))<|wV (run_bT (run_gtr rfl rfl) (by omega))<|wZ<|CW.cond rfl (fun h=>?_) (fun h=>?_)
  ·refine sr<|wA<|wA<|wZ<|CW.ret ?_
   refine fin_ret2 rfl ?_
   exact⟨_,[],[],_,_,rfl,OwnSl.nil _ _,(fun h=>by cases h),(fun h=>by cases h),hR,Step.narrow2 (X:=[]) (W':=_::_::_::LL) hw hs.tail⟩
  ·cases h
 refine cq<|sr<|wm<|wl ty3 rfl ((Step.inD (A:=[_]) (W:=_::_::_::LL) hs hK.m9 rfl))<|wV (run_bF (run_gtr rfl rfl) (by omega))<|wZ<|CW.cond rfl (fun h=>?_) (fun h=>?_)
 ·cases h
 by_cases c2:rm.n<(t.n:Int)+1
 ·have hlk:look s rm x t=(62,t.node):=by rw[look,if_neg c1,if_pos c2]
  rw[hlk]
  refine ck<|cq<|sr<|wl ty3 rfl (hs.c2 (v:=.int .i64 (rm.n - t.n)) rfl)<|wV (run_bT (run_lss rfl rfl) (by omega))<|wZ<|CW.cond rfl (fun h=>?_) (fun h=>?_)
  ·refine sr<|wA<|wA<|wZ<|CW.ret ?_
   refine fin_ret2 rfl ?_
   exact⟨_,[],[],_,_,rfl,OwnSl.nil _ _,(fun h=>by cases h),(fun h=>by cases h),hR,Step.narrow2 (X:=[]) (W':=_::_::_::LL) hw hs.tail⟩
  ·cases h
 have hlk:look s rm x t=((((s.get x.d).2:Nat):Int),t.node.meet x):=by rw[look,if_neg c1,if_neg c2]
 rw[hlk]
 refine ck<|cq<|sr<|wl ty3 rfl (hs.c2 (v:=.int .i64 (rm.n - t.n)) rfl)<|wV (run_bF (run_lss rfl rfl) (by omega))<|wZ<|CW.cond rfl (fun h=>?_) (fun h=>?_)
 ·cases h
 refine ck<|sr<|wl ty3 rfl (hs.c2 (v:=.int .i64 (rm.n - t.n)) rfl)<|wV (run_sub (c:=(rm.n - ((t.n+1:Nat):Int))) rfl rfl (by omega) (by omega))<|WL.store1_2 ty3 rfl rfl (rfl) hs (by first | (simp;done) | omega | (simp only[length_append,length_replicate,length_cons,length_nil,length_set];omega) | (simp[Ent.cells,u8s];done) | exact Nat.le_of_ble_eq_true rfl) (fun w hs=>?_)
 refine wZ ?_
 replace hs:=(show Step _ ((b5,blk 44 (u8s x.d))::(b8,blk 65 [vL])::(b10,blk 3 [.int .i64 (rm.n - ((t.n+1:Nat):Int))])::(b11,blk 3 [.int .i64 (rm.b - t.b)])::(LL++(L++D))) w0 w from hs)
 refine sr<|wl ty39 rfl ((Step.inD (A:=[_]) (W:=_::_::_::LL) hs hK.m3 rfl))<|wV (run_loadN ty44 rfl hdl hs.a0)<|wE rfl (run_call en76 rfl rfl) (get_abs (n:=N+t.g) hR (ok.gotN _) (hfew.gotN _) (by omega) (Own.live (A:=_::_::_::_::LL) hs) hd) ?_
 rintro e w ⟨v,Lv,L1,rfl,hv,hP,hq⟩
 refine⟨_,rfl,?_⟩
 replace hs:=Own.put (A:=_::_::_::_::LL) (L:=L) hs hq
 refine wx rfl rfl<|wx rfl rfl<|wA<|wA<|wZ<|CW.ret ?_
 refine fin_ret2 rfl ?_
 exact⟨v,(s.get x.d).1,Lv,(b8,blk 65 [vL])::(b10,blk 3 [.int .i64 (rm.n - ((t.n+1:Nat):Int))])::(b11,blk 3 [.int .i64 (rm.b - t.b)])::LL,L1,rfl,hv,fun _=>rfl,fun _=>⟨vL,LL,T,rfl,hvL,hT,hTD⟩,hP,Step.narrow2 (W':=_::_::_::LL) hw hs.tail⟩
end
section
variable{S:List Nat}{q:Nat×Obj}{P A X:List (Nat×Obj)}{w w':World}
theorem Step.ldI (h:Step S (q::(P++(A++X))) w w'):Step S (A++(P++X)) w w':=h.tail.perm (perm_append_comm_assoc P A X)
theorem Step.ldO (h:Step S (A++(P++X)) w w'):Step S (P++(A++X)) w w':=h.perm (perm_append_comm_assoc A P X)
theorem Step.ldP{L1 L2:List (Nat×Obj)} (h:Step S (L1++X) w w') (hp:L1.Perm L2):Step S (L2++X) w w':=h.perm (hp.append_right X)
theorem perm6{α:Type} (a b c d e f:α):[a,b,c,d,e,f].Perm [d,a,b,c,e,f]:=by classical exact perm_iff_count.2 fun x=>by simp only[count_cons,count_nil];omega
theorem perm6b{α:Type} (a b c d e f:α):[d,a,b,c,e,f].Perm [a,b,c,d,e,f]:=(perm6 a b c d e f).symm
theorem perm6c{α:Type} (a b c d e f:α):[a,b,c,d,e,f].Perm [f,d,a,b,c,e]:=by classical exact perm_iff_count.2 fun x=>by simp only[count_cons,count_nil];omega
theorem perm6d{α:Type} (a b c d e f:α):[f,d,a,b,c,e].Perm [a,b,c,d,e,f]:=(perm6c a b c d e f).symm
end
def LdPost (c8 c10 c11 bp:Nat) (rm:Rm) (s:AS) (r:Int×WS) (D W L:List (Nat×Obj)) (w0:World) (e:Ending) (w':World):Prop:=
 ∃W' L' D',e=.returned (.int .i64 r.1)∧(r.1=0→LdW c8 c10 c11 rm r.2 (D'++D) W')∧PRep bp (s.gotN r.2.g) (D'++D) L'∧Step ((W++L).map (·.1)) (W'++(L'++D')) w0 w'
section
variable{c3 c8 c9 c10 c11 c12 c13 bp N:Nat}{rm:Rm}{s:AS}
set_option maxHeartbeats 16000000 in
theorem ldw_spec (ok:s.Ok) (hrm:rm.Ok) (hfew:s.Few N) (hN:N<1000000000000):∀(n:Nat){x:Std}{t:WS}{D W L:List (Nat×Obj)}{w0:World},x.dir=true→n+x.dep=34→x.d.length=32→x.p.length≤65*x.dep→t.Good 1→LdK c3 c8 c9 c10 c11 c12 c13 bp rm D→LdW c8 c10 c11 rm t D W→PRep bp (s.gotN t.g) D L→Lives (W++(L++D)) w0→
  CP 77 #[str x.p,.agg (u8s x.d).toArray,.int .i64 (x.dep:Nat),.pointer (some ⟨c12,0,none⟩),.pointer (some ⟨c8,0,none⟩),.pointer (some ⟨c13,0,none⟩),.pointer (some ⟨c11,0,none⟩)] w0 (LdPost c8 c10 c11 bp rm s (standP s rm n x t) D W L w0):=by
 intro n
 induction n with
 | zero=>?_
 | succ m ih=>?_
 all_goals
  intro x t D W L w0 hx hn hd hp hg hK hW hR hw
  have hdl:(u8s x.d).length=32:=by rw[u8s,length_map,hd]
  have hgl:=get_len ok x.d
  have hrd:=hrm.d
  have hs:Step _ (W++(L++D)) w0 w0:=hw
 case zero=>
  have hst:=standP_err (s:=s) (t:=t) hrd.2 hn (by rw[look_deep (by omega)];simp)
  rw[hst]
  have hl33:look s rm x t=(33,t):=look_deep (by omega)
  refine calls (n:=98) Tryz.func77 rfl rfl rfl ?_
  refine sr<|WL.box (cs:=u8s x.d) rfl rfl rfl hs (fun b8 w hs=>?_)
  refine wA<|wZ<|sr<|wl ty150 rfl ((Step.inD (A:=[_]) hs hK.m12 rfl))<|wV (run_loadN ty44 rfl hdl hs.a0)<|wm<|wE rfl (run_callV (cap:=[.pointer (some ⟨c9,0,none⟩),.pointer (some ⟨c10,0,none⟩),.pointer (some ⟨c3,0,none⟩)]) en75 rfl rfl) (ldget_spec hK hW hR ok hrm hfew hN hg hd (by omega) (Lives.mk hs.tail)) ?_
  rintro e w ⟨v,y,Lv,W1,L1,rfl,hvy,hy,hW1,hR1,hq⟩
  refine⟨_,rfl,?_⟩
  replace hs:=Step.wput (A:=[_]) hs hq
  refine wm<|wx rfl rfl<|wx rfl rfl<|wA<|wA<|wZ ?_
  rw[hl33] at hW1 hR1⊢
  refine cq<|sr<|wm<|wV (run_bT (run_neq rfl rfl) (by exact fun h=>by cases h))<|wZ<|CW.cond rfl (fun h=>?_) (fun h=>?_)
  ·refine sr<|wm<|wA<|wZ<|CW.ret ?_
   refine fin_ret1 rfl ?_
   exact⟨W1,L1,Lv,rfl,(fun h=>by cases h),hR1.mono mem_right,Step.narrow2 hw hs.tail⟩
  ·cases h
 case succ=>
  by_cases hl:(look s rm x t).1≠0
  ·rw[standP_err hrd.2 hn hl]
   refine calls (n:=98) Tryz.func77 rfl rfl rfl ?_
   refine sr<|WL.box (cs:=u8s x.d) rfl rfl rfl hs (fun b8 w hs=>?_)
   refine wA<|wZ<|sr<|wl ty150 rfl ((Step.inD (A:=[_]) hs hK.m12 rfl))<|wV (run_loadN ty44 rfl hdl hs.a0)<|wm<|wE rfl (run_callV (cap:=[.pointer (some ⟨c9,0,none⟩),.pointer (some ⟨c10,0,none⟩),.pointer (some ⟨c3,0,none⟩)]) en75 rfl rfl) (ldget_spec hK hW hR ok hrm hfew hN hg hd (by omega) (Lives.mk hs.tail)) ?_
   rintro e w ⟨v,y,Lv,W1,L1,rfl,hvy,hy,hW1,hR1,hq⟩
   refine⟨_,rfl,?_⟩
   replace hs:=Step.wput (A:=[_]) hs hq
   refine wm<|wx rfl rfl<|wx rfl rfl<|wA<|wA<|wZ<|cq<|sr<|wm<|wV (run_bT (run_neq rfl rfl) (by exact hl))<|wZ<|CW.cond rfl (fun h=>?_) (fun h=>?_)
   ·refine sr<|wm<|wA<|wZ<|CW.ret ?_
    refine fin_ret1 rfl ?_
    exact⟨W1,L1,Lv,rfl,(fun h=>absurd h hl),hR1.mono mem_right,Step.narrow2 hw hs.tail⟩
   ·cases h
  have hl0:(look s rm x t).1=0:=by simpa using hl
  refine calls (n:=98) Tryz.func77 rfl rfl rfl ?_
  refine sr<|WL.box (cs:=u8s x.d) rfl rfl rfl hs (fun b8 w hs=>?_)
  refine wA<|wZ<|sr<|wl ty150 rfl ((Step.inD (A:=[_]) hs hK.m12 rfl))<|wV (run_loadN ty44 rfl hdl hs.a0)<|wm<|wE rfl (run_callV (cap:=[.pointer (some ⟨c9,0,none⟩),.pointer (some ⟨c10,0,none⟩),.pointer (some ⟨c3,0,none⟩)]) en75 rfl rfl) (ldget_spec hK hW hR ok hrm hfew hN hg hd (by omega) (Lives.mk hs.tail)) ?_
  rintro e w ⟨v,y,Lv,W1,L1,rfl,hvy,hy,hW1,hR1,hq⟩
  refine⟨_,rfl,?_⟩
  replace hs:=Step.wput (A:=[_]) hs hq
  refine wm<|wx rfl rfl<|wx rfl rfl<|wA<|wA<|wZ ?_
  obtain rfl:=hy hl0
  have hW1:=hW1 hl0
  have hHl:Held (Lv++D) v (s.get x.d).1:=⟨Lv,hvy,fun p hp=>mem_append_left _ hp⟩
  refine cq<|sr<|wm<|wV (run_bF (run_neq rfl rfl) (by exact fun h=>h hl0))<|wZ<|CW.cond rfl (fun h=>?_) (fun h=>?_)
  ·cases h
  by_cases hde:decE (s.get x.d).1≠0
  ·rw[standP_bad hrd.2 hx hn hl0 hde]
   refine ck<|sr<|wm<|wE rfl (run_call en78 rfl rfl) (decode_at _ (hHl.sl fun p hp=>hs.has p (mem_r3 (W:=W1) (R:=L1) hp)) (by omega)) ?_
   rintro e w ⟨u,Le,rfl,hu,hoks,hle,hq⟩
   refine⟨_,rfl,?_⟩
   replace hs:=Step.call0 hs hq
   refine wm<|wx rfl rfl<|wx rfl rfl<|wA<|wA<|wZ<|cq<|sr<|wm<|wV (run_bT (run_neq rfl rfl) (by exact hde))<|wZ<|CW.cond rfl (fun h=>?_) (fun h=>?_)
   ·refine sr<|wm<|wA<|wZ<|CW.ret ?_
    refine fin_ret1 rfl ?_
    exact⟨W1,L1,Lv,rfl,(fun h=>absurd h hde),hR1.mono mem_right,Step.narrow2 hw (Step.dropL hs).tail⟩
   ·cases h
  have hde0:decE (s.get x.d).1=0:=by simpa using hde
  refine ck<|sr<|wm<|wE rfl (run_call en78 rfl rfl) (decode_at _ (hHl.sl fun p hp=>hs.has p (mem_r3 (W:=W1) (R:=L1) hp)) (by omega)) ?_
  rintro e w ⟨u,Le,rfl,hu,hoks,hle,hq⟩
  refine⟨_,rfl,?_⟩
  replace hs:=Step.call0 hs hq
  refine wm<|wx rfl rfl<|wx rfl rfl<|wA<|wA<|wZ<|cq<|sr<|wm<|wV (run_bF (run_neq rfl rfl) (by exact fun h=>h hde0))<|wZ<|CW.cond rfl (fun h=>?_) (fun h=>?_)
  ·cases h
  have hgd:=look_good hrm hx hg hl0 hde0
  rw[standP_go hx hl0 hde0]
  have ob:∃r,seqS (fun y u=>standP s rm m y (push y u)) (kids x (s.get x.d).1) (look s rm x t).2=r:=⟨_,rfl⟩
  obtain⟨r,hr⟩:=ob
  rw[hr]
  have ob:∃l,decL (s.get x.d).1=l:=⟨_,rfl⟩
  obtain⟨l,hll⟩:=ob
  have hnm:∀e∈l,isName e.name=true:=hll▸decL_name
  have hk:kids x (s.get x.d).1=l.map (kidOf x):=by rw[kids,hll]
  rw[hk] at hr
  rw[hll] at hu hoks hle
  have ob:=hu.form
  obtain⟨ua,uc,rfl⟩:=ob
  refine ck<|cq<|sr<|wm<|wV (run_lenSl u116 rfl)<|wm<|wZ<|cB<|CW.loop (fun z f w'=>∃i t' W' L' D',i≤l.length∧z=l.length - i∧seqS (fun y u=>standP s rm m y (push y u)) ((l.map (kidOf x)).drop i) t'=r∧t'.Good 0∧LdW c8 c10 c11 rm t' (D'++D) W'∧PRep bp (s.gotN t'.g) (D'++D) L'∧Step (List.map (·.1) (W++(L++D))) (Le++((b8,blk 44 (u8s x.d))::(W'++(L'++(D'++D))))) w0 w'∧Holds f [(0,str x.p),(2,.int .i64 (x.dep:Nat)),(3,.pointer (some ⟨c12,0,none⟩)),(4,.pointer (some ⟨c8,0,none⟩)),(5,.pointer (some ⟨c13,0,none⟩)),(6,.pointer (some ⟨c11,0,none⟩)),(38,.slice ua l.length uc),(39,.int .i64 (l.length:Nat)),(40,.int .i64 (i:Nat))]) (m:=l.length) ?_ ?_
  ·exact⟨0,_,W1,L1,Lv,Nat.zero_le _,rfl,hr,hgd,hW1.mono mem_right,hR1.mono mem_right,hs,rfl,rfl,rfl,rfl,rfl,rfl,rfl,rfl,rfl,trivial⟩
  clear hs
  rintro z f w ⟨i,t',W',L',D',hi,rfl,hr,hg',hW',hR',hs,hf⟩
  have hK':LdK c3 c8 c9 c10 c11 c12 c13 bp rm (D'++D):=hK.mono mem_right
  by_cases hlt:i<l.length
  ·have ob:=hu.some1 (by omega)
   obtain⟨bu,cu,more,hu1,hu2,hu3⟩:=ob
   rw[hu1] at hf
   have ob:=hf.chain
   obtain⟨g,rfl⟩:=ob
   rw[hu2] at hs
   replace hs:Step (List.map (·.1) (W++(L++D))) ((bu,blk 115 (rows l++more))::(b8,blk 44 (u8s x.d))::(W'++(L'++(D'++D)))) w0 w:=hs
   have ob:∃e,l[i]=e:=⟨_,rfl⟩
   obtain⟨e,he⟩:=ob
   have hmem:e∈l:=he▸getElem_mem hlt
   have heo:=hoks e hmem
   have hel:(u8s e.dig).length=32:=by rw[u8s,length_map,heo.1]
   have hec:=Ent.cells_len heo
   have hent:At w bu (0+i*34) e.cells:=by
    have h2:=(At.of_blk hs.hd).left.ent hoks hlt
    rw[he] at h2;exact h2
   have hdrop:(l.map (kidOf x)).drop i=kidOf x e::(l.map (kidOf x)).drop (i+1):=by
    rw[drop_eq_getElem_cons (by rw[length_map];exact hlt),getElem_map,he]
   rw[hdrop,seqS] at hr
   have hnl:=nameLe (hnm e hmem)
   have hjl:=joinP_le (p:=x.p) hnl
   refine sr<|wV (run_bT (run_lss rfl rfl) (by omega))<|wZ<|cq<|CW.cond rfl (fun h=>?_) (fun h=>?_)
   ·refine ck<|cq<|cB<|sr<|wV (run_ixSlN u116 ty115 rfl rfl (by omega))<|wV (run_loadN ty115 rfl hec hent)<|WL.alloc ty115 rfl hs (fun b15 w hs=>?_)
    refine WL.storeAll ty115 rfl rfl ((hec)) ((Ent.cells1 _)) hs (by rfl) (fun w hs=>?_)
    refine wZ ?_
    replace hs:Step (List.map (·.1) (W++(L++D))) ((b15,blk 115 e.cells)::(bu,blk 115 (rows l++more))::(b8,blk 44 (u8s x.d))::(W'++(L'++(D'++D)))) w0 w:=hs
    refine sr<|wF 0 u115 rfl ty9 rfl<|wl ty9 rfl (hs.c0 (v:=str e.name) rfl)<|wA<|wZ<|CW.seqM (fun f w=>Step (List.map (·.1) (W++(L++D))) ((b15,blk 115 e.cells)::(bu,blk 115 (rows l++more))::(b8,blk 44 (u8s x.d))::(W'++(L'++(D'++D)))) w0 w∧Holds f [(0,str x.p),(2,.int .i64 (x.dep:Nat)),(3,.pointer (some ⟨c12,0,none⟩)),(4,.pointer (some ⟨c8,0,none⟩)),(5,.pointer (some ⟨c13,0,none⟩)),(6,.pointer (some ⟨c11,0,none⟩)),(15,.pointer (some ⟨b15,0,none⟩)),(16,str (joinP x.p e.name)),(38,.slice (some ⟨bu,0,none⟩) l.length cu),(39,.int .i64 (l.length:Nat)),(40,.int .i64 (i:Nat))]) ?_ ?_
    ·by_cases hp0:x.p=[]
     ·refine sr<|wm<|wV (run_bF (run_strNe rfl rfl) (by exact fun h=>h hp0))<|wZ<|CW.cond rfl (fun h=>?_) (fun h=>?_)
      ·cases h
      refine ck ?_
      exact⟨rfl,hs,rfl,rfl,rfl,rfl,rfl,rfl,rfl,congrArg str (if_pos hp0).symm,rfl,rfl,rfl,trivial⟩
     ·refine sr<|wm<|wV (run_bT (run_strNe rfl rfl) (by exact hp0))<|wZ<|CW.cond rfl (fun h=>?_) (fun h=>?_)
      ·skip
       refine cr<|wm<|wV (run_strAdd rfl rfl ((by simp;omega)))<|wF 0 u115 rfl ty9 rfl<|wl ty9 rfl (hs.c0 (v:=str e.name) rfl)<|wV (run_strAdd rfl rfl ((by simp;omega)))<|wA<|wZ ?_
       exact⟨rfl,hs,rfl,rfl,rfl,rfl,rfl,rfl,rfl,congrArg str (by rw[joinP,if_neg hp0];simp),rfl,rfl,rfl,trivial⟩
      ·cases h
    clear hs hent
    rintro f w ⟨hs,hf⟩
    have ob:=hf.chain
    obtain⟨g,rfl⟩:=ob
    have hpj:(joinP x.p e.name).length≤65*(x.dep+1):=by omega
    have hdgs:∀{X:List (Nat×Obj)}{w:World},Step (List.map (·.1) (W++(L++D))) ((b15,blk 115 e.cells)::X) w0 w→At w b15 (0+2) (u8s e.dig):=fun h=>(At.of_blk h.hd).drop 2
    by_cases hkd:e.kind=2
    ·have hkx:(kidOf x e).dir=true:=by simp[kidOf,hkd]
     have hpu:push (kidOf x e) t' = { t' with l:=t'.l++[⟨joinP x.p e.name,true,[]⟩] }:=push_dir hkx (by simp[kidOf]) t'
     obtain⟨vL,LL,T,rfl,hvL,hT,hTD⟩:=hW'
     have ob:=hvL.form
     obtain⟨la,lc,rfl⟩:=ob
     have hgl':=hg'.l
     have hgn':=hg'.n
     refine cq<|sr<|wF 1 u115 rfl ty3 rfl<|wl ty3 rfl (hs.c0 (v:=.int .i64 e.kind) rfl)<|wV (run_bT (run_eql rfl rfl) (by exact hkd))<|wZ<|CW.cond rfl (fun h=>?_) (fun h=>?_)
     ·replace hs:=Step.ldP (L1:=[_,_,_,_,_,_]) hs (perm6 _ _ _ _ _ _)
      replace hs:Step (List.map (·.1) (W++(L++D))) ([(c8,blk 65 [.slice la t'.l.length lc]),(b15,blk 115 e.cells),(bu,blk 115 (rows l++more)),(b8,blk 44 (u8s x.d)),(c10,blk 3 [.int .i64 (rm.n - t'.n)]),(c11,blk 3 [.int .i64 (rm.b - t'.b)])]++(LL++(L'++(D'++D)))) w0 w:=hs
      refine sr<|wl ty65 rfl (hs.c0 (v:=.slice la t'.l.length lc) rfl)<|wm<|wV (run_build rfl (bld_wd _ _))<|WL.buildSlice (cs:=[str (joinP x.p e.name),.bool true,.slice none 0 0]) u65 ty155 rfl (by decide) rfl (filled1 rfl rfl) rfl hs (fun b59 w hs=>?_)
      have hsl59:Sl w 3 (.slice (some ⟨b59,0,none⟩) 1 1) 1 [str (joinP x.p e.name),.bool true,.slice none 0 0]:=.own1 hs rfl
      replace hs:=Step.ldI (P:=[_,_,_,_,_,_]) hs
      refine WL.append u65 u65 ty155 rfl (by decide) rfl rfl (hvL) (hs) (hsl59) (Cells1.of_all rfl) (by omega) rfl (fun v60 Lv60 w hv60 hs=>?_)
      replace hs:=Step.ldO (P:=[_,_,_,_,_,_]) hs
      refine ws1 ty65 rfl rfl (hv60.one) hs (fun w hs=>?_)
      refine wZ ?_
      replace hs:=Step.ldP (L1:=[_,_,_,_,_,_]) hs (perm6b _ _ _ _ _ _)
      replace hs:Step (List.map (·.1) (W++(L++D))) ((b15,blk 115 e.cells)::(bu,blk 115 (rows l++more))::(b8,blk 44 (u8s x.d))::(((c8,blk 65 [v60])::(c10,blk 3 [.int .i64 (rm.n - t'.n)])::(c11,blk 3 [.int .i64 (rm.b - t'.b)])::Lv60)++(L'++(D'++D)))) w0 w:=hs
      have hW2:LdW c8 c10 c11 rm (push (kidOf x e) t') (D'++D) ((c8,blk 65 [v60])::(c10,blk 3 [.int .i64 (rm.n - t'.n)])::(c11,blk 3 [.int .i64 (rm.b - t'.b)])::Lv60):=by
       refine⟨v60,Lv60,T++[(⟨joinP x.p e.name,true,[]⟩,.slice none 0 0)],by rw[hpu],?_,?_,?_⟩
       ·have e1:(push (kidOf x e) t').l.length=t'.l.length+1:=by rw[hpu];show(t'.l++[_]).length=_;simp
        rw[e1,rowsW_snoc];exact hv60
       ·rw[hpu,map_append,hT];rfl
       ·intro u hu
        rcases mem_append.1 hu with hu | hu
        ·exact hTD u hu
        ·obtain rfl:=mem_singleton.1 hu
         exact⟨[],OwnSl.nil _ _,fun p hp=>by cases hp⟩
      refine cq<|sr<|wl ty151 rfl ((Step.inD (A:=[_,_,_]) (W:=_::_::_::Lv60) hs hK'.m13 rfl))<|wm<|wF 2 u115 rfl ty44 rfl<|wV (run_loadN ty44 rfl hel (hdgs hs))<|wm<|wV (run_add (c:=((x.dep+1:Nat):Int)) rfl rfl (by omega) (by omega))<|wE rfl (run_callV (cap:=[.pointer (some ⟨c12,0,none⟩),.pointer (some ⟨c8,0,none⟩),.pointer (some ⟨c13,0,none⟩),.pointer (some ⟨c11,0,none⟩)]) en77 rfl rfl) (ih (x:=kidOf x e) hkx (show m+(x.dep+1)=34 by omega) heo.1 hpj ((push_good _ hg').mono (by unfold kOf;split <;> omega)) hK' hW2 (by rw[push_g];exact hR') (Lives.mk hs.tail.tail.tail)) ?_
      rintro e w ⟨W2,L2,D2,rfl,hW3,hR3,hq⟩
      refine⟨_,rfl,?_⟩
      replace hs:=Step.wput (A:=[_,_,_]) (W:=_::_::_::Lv60) hs hq
      refine wA<|wZ ?_
      by_cases her:(standP s rm m (kidOf x e) (push (kidOf x e) t')).1≠0
      ·rw[if_pos her] at hr
       obtain rfl:=hr
       refine sr<|wm<|wV (run_bT (run_neq rfl rfl) (by exact her))<|wZ<|CW.cond rfl (fun h=>?_) (fun h=>?_)
       ·refine sr<|wm<|wA<|wZ<|CW.ret ?_
        refine fin_ret1 rfl ?_
        exact⟨W2,L2,D2++D',rfl,(fun h=>absurd h her),by rw[append_assoc];exact hR3,Step.narrow2 hw (by rw[append_assoc];exact hs.tail.tail.tail)⟩
       ·cases h
      ·rw[if_neg her] at hr
       have her0:(standP s rm m (kidOf x e) (push (kidOf x e) t')).1=0:=by simpa using her
       refine sr<|wm<|wV (run_bF (run_neq rfl rfl) (by exact her))<|wZ<|CW.cond rfl (fun h=>?_) (fun h=>?_)
       ·cases h
       refine ck<|CW.exit<|cr<|wV (run_add (c:=((i+1:Nat):Int)) rfl rfl (by omega) (by omega))<|wm<|wZ<|(show _∧_ from⟨rfl,_,?_,i+1,_,W2,L2,D2++D',hlt,rfl,hr,standP_good hrm m (push_good _ hg') her0,by rw[append_assoc];exact hW3 her0,by rw[append_assoc];exact hR3,by rw[hu2,append_assoc];exact hs.tail,rfl,rfl,rfl,rfl,rfl,rfl,hu1.symm,rfl,rfl,trivial⟩)
       omega
     ·cases h
    ·have hkx:(kidOf x e).dir=false:=by simp[kidOf,hkd]
     have hsf:standP s rm m (kidOf x e) (push (kidOf x e) t')=((visit s rm (kidOf x e) t').1,(visit s rm (kidOf x e) t').2.2):=by
      rw[push_file hkx]
      exact standP_file hrd.2 hkx (show m+(x.dep+1)=34 by omega) t'
     have hv:=visit_look s rm (kidOf x e) t'
     rw[if_neg (show ¬(kidOf x e).dir=true by simp[hkx])] at hv
     have hb1:=hg'.b
     have hl1:=hg'.l
     have hn1:=hg'.n
     have hrb:=hrm.b
     have hgl2:=get_len ok e.dig
     have hlb:(look s rm (kidOf x e) t').2.b=t'.b:=by
      unfold look;split
      ·rfl
      ·split <;> rfl
     have hll3:(look s rm (kidOf x e) t').2.l=t'.l:=by
      unfold look;split
      ·rfl
      ·split <;> rfl
     refine cq<|sr<|wF 1 u115 rfl ty3 rfl<|wl ty3 rfl (hs.c0 (v:=.int .i64 e.kind) rfl)<|wV (run_bF (run_eql rfl rfl) (by exact hkd))<|wZ<|CW.cond rfl (fun h=>?_) (fun h=>?_)
     ·cases h
     refine ck<|sr<|wl ty150 rfl ((Step.inD (A:=[_,_,_]) hs hK'.m12 rfl))<|wF 2 u115 rfl ty44 rfl<|wV (run_loadN ty44 rfl hel (hdgs hs))<|wm<|wV (run_add (c:=((x.dep+1:Nat):Int)) rfl rfl (by omega) (by omega))<|wE rfl (run_callV (cap:=[.pointer (some ⟨c9,0,none⟩),.pointer (some ⟨c10,0,none⟩),.pointer (some ⟨c3,0,none⟩)]) en75 rfl rfl) (ldget_spec (x:=kidOf x e) hK' hW' hR' ok hrm hfew hN (hg'.mono (by omega)) heo.1 (show x.dep+1≤34 by omega) (Lives.mk hs.tail.tail.tail)) ?_
     rintro e w ⟨v2,y,Lv2,W2,L2,rfl,hvy2,hy2,hW2,hP2,hq⟩
     refine⟨_,rfl,?_⟩
     replace hs:=Step.wput (A:=[_,_,_]) hs hq
     refine wm<|wx rfl rfl<|wx rfl rfl<|wA<|wA<|wZ ?_
     rw[hsf] at hr
     have ob:∃er,(look s rm (kidOf x e) t').1=er:=⟨_,rfl⟩
     obtain⟨er,her⟩:=ob
     have ob:∃u2,(look s rm (kidOf x e) t').2=u2:=⟨_,rfl⟩
     obtain⟨u2,hu2e⟩:=ob
     rw[her,hu2e] at hv
     rw[her] at hy2 hW2
     rw[hu2e] at hlb hll3 hW2 hP2
     by_cases c1:er≠0
     ·rw[if_pos c1] at hv
      rw[hv] at hr
      simp only at hr
      rw[if_pos c1] at hr
      obtain rfl:=hr
      refine cq<|sr<|wm<|wV (run_bT (run_neq rfl rfl) (by rw[her];exact c1))<|wZ<|CW.cond rfl (fun h=>?_) (fun h=>?_)
      ·refine sr<|wm<|wA<|wZ<|CW.ret ?_
       refine fin_ret1 rfl ?_
       exact⟨W2,L2,Lv2++D',congrArg (fun z=>Ending.returned (.int .i64 z)) her,(fun h=>absurd h c1),by rw[append_assoc];exact hP2.mono mem_right,Step.narrow2 hw (by rw[append_assoc];exact hs.tail.tail.tail)⟩
      ·cases h
     have h0:er=0:=by simpa using c1
     subst h0
     rw[if_neg (by simp)] at hv
     have hW2:=hW2 rfl
     obtain rfl:=hy2 rfl
     have ob:=hvy2.form
     obtain⟨va2,vc2,rfl⟩:=ob
     obtain⟨vL,LL,T,rfl,hvL,hT,hTD⟩:=hW2
     have hHl2:Held (Lv2++(D'++D)) (.slice va2 (s.get (kidOf x e).d).1.length vc2) (s.get (kidOf x e).d).1:=⟨Lv2,hvy2,fun p hp=>mem_append_left _ hp⟩
     have hgl3:(s.get (kidOf x e).d).1.length≤67108864:=Nat.le_trans hgl2 (by decide)
     have ob:=hvL.form
     obtain⟨la,lc,rfl⟩:=ob
     have hll4:u2.l.length≤65537:=by rw[hll3];omega
     refine cq<|sr<|wm<|wV (run_bF (run_neq rfl rfl) (by rw[her];exact fun h=>h rfl))<|wZ<|CW.cond rfl (fun h=>?_) (fun h=>?_)
     ·cases h
     replace hs:=Step.ldP (L1:=[_,_,_,_,_,_]) hs (perm6c _ _ _ _ _ _)
     replace hs:Step (List.map (·.1) (W++(L++D))) ([(c11,blk 3 [.int .i64 (rm.b - u2.b)]),(c8,blk 65 [.slice la u2.l.length lc]),(b15,blk 115 e.cells),(bu,blk 115 (rows l++more)),(b8,blk 44 (u8s x.d)),(c10,blk 3 [.int .i64 (rm.n - u2.n)])]++(LL++(L2++(Lv2++(D'++D))))) w0 w:=hs
     by_cases c2:rm.b<(u2.b:Int)+(s.get (kidOf x e).d).1.length
     ·rw[if_pos c2] at hv
      rw[hv] at hr
      simp only at hr
      rw[if_pos (by decide)] at hr
      obtain rfl:=hr
      refine ck<|cq<|sr<|wm<|wV (run_lenSl u76 rfl)<|wl ty3 rfl (hs.c0 (v:=.int .i64 (rm.b - u2.b)) rfl)<|wV (run_bT (run_gtr rfl rfl) (by omega))<|wZ<|CW.cond rfl (fun h=>?_) (fun h=>?_)
      ·refine sr<|wA<|wZ<|CW.ret ?_
       refine fin_ret1 rfl ?_
       refine⟨(c8,blk 65 [.slice la u2.l.length lc])::(c10,blk 3 [.int .i64 (rm.n - u2.n)])::(c11,blk 3 [.int .i64 (rm.b - u2.b)])::LL,L2,Lv2++D',rfl,(fun h=>by cases h),by rw[append_assoc];exact hP2.mono mem_right,Step.narrow2 hw ?_⟩
       rw[append_assoc]
       exact(Step.ldP (L1:=[_,_,_,_,_,_]) hs (perm6d _ _ _ _ _ _)).tail.tail.tail
      ·cases h
     rw[if_neg c2] at hv
     rw[hv] at hr
     simp only at hr
     rw[if_neg (by simp)] at hr
     refine ck<|cq<|sr<|wm<|wV (run_lenSl u76 rfl)<|wl ty3 rfl (hs.c0 (v:=.int .i64 (rm.b - u2.b)) rfl)<|wV (run_bF (run_gtr rfl rfl) (by omega))<|wZ<|CW.cond rfl (fun h=>?_) (fun h=>?_)
     ·cases h
     refine ck<|sr<|wl ty3 rfl (hs.c0 (v:=.int .i64 (rm.b - u2.b)) rfl)<|wm<|wV (run_lenSl u76 rfl)<|wV (run_sub (c:=(rm.b - ((u2.b+(s.get (kidOf x e).d).1.length:Nat):Int))) rfl rfl (by omega) (by omega))<|ws1 ty3 rfl rfl (rfl) hs (fun w hs=>?_)
     refine wZ ?_
     replace hs:Step (List.map (·.1) (W++(L++D))) ([(c11,blk 3 [.int .i64 (rm.b - ((u2.b+(s.get (kidOf x e).d).1.length:Nat):Int))]),(c8,blk 65 [.slice la u2.l.length lc]),(b15,blk 115 e.cells),(bu,blk 115 (rows l++more)),(b8,blk 44 (u8s x.d)),(c10,blk 3 [.int .i64 (rm.n - u2.n)])]++(LL++(L2++(Lv2++(D'++D))))) w0 w:=hs
     refine cr<|wl ty65 rfl (hs.c1 (v:=.slice la u2.l.length lc) rfl)<|wm<|wm<|wV (run_build rfl (bld_wi _ _ _ _ _))<|WL.buildSlice (cs:=[str (joinP x.p e.name),.bool false,.slice va2 (s.get (kidOf x e).d).1.length vc2]) u65 ty155 rfl (by decide) rfl (filled1 rfl rfl) rfl hs (fun b95 w hs=>?_)
     have hsl95:Sl w 3 (.slice (some ⟨b95,0,none⟩) 1 1) 1 [str (joinP x.p e.name),.bool false,.slice va2 (s.get (kidOf x e).d).1.length vc2]:=.own1 hs rfl
     replace hs:=Step.ldI (P:=[_,_,_,_,_,_]) hs
     refine WL.append u65 u65 ty155 rfl (by decide) rfl rfl (hvL) (hs) (hsl95) (Cells1.of_all rfl) (by omega) rfl (fun v96 Lv96 w hv96 hs=>?_)
     replace hs:=Step.ldO (P:=[_,_,_,_,_,_]) hs
     refine ws1 ty65 rfl rfl (hv96.one) (hs.swap) (fun w hs=>?_)
     refine wZ ?_
     replace hs:Step (List.map (·.1) (W++(L++D))) ([(c11,blk 3 [.int .i64 (rm.b - ((u2.b+(s.get (kidOf x e).d).1.length:Nat):Int))]),(c8,blk 65 [v96]),(b15,blk 115 e.cells),(bu,blk 115 (rows l++more)),(b8,blk 44 (u8s x.d)),(c10,blk 3 [.int .i64 (rm.n - u2.n)])]++(Lv96++(L2++(Lv2++(D'++D))))) w0 w:=hs.swap
     replace hs:=Step.ldP (L1:=[_,_,_,_,_,_]) hs (perm6d _ _ _ _ _ _)
     replace hs:Step (List.map (·.1) (W++(L++D))) ((b15,blk 115 e.cells)::(bu,blk 115 (rows l++more))::(b8,blk 44 (u8s x.d))::(((c8,blk 65 [v96])::(c10,blk 3 [.int .i64 (rm.n - u2.n)])::(c11,blk 3 [.int .i64 (rm.b - ((u2.b+(s.get (kidOf x e).d).1.length:Nat):Int))])::Lv96)++(L2++(Lv2++(D'++D))))) w0 w:=hs
     have hv':standP s rm m (kidOf x e) (push (kidOf x e) t')=(0,(u2.byte (s.get (kidOf x e).d).1.length).item ⟨(kidOf x e).p,false,(s.get (kidOf x e).d).1⟩):=by rw[hsf,hv]
     refine cr<|wV (run_add (c:=((i+1:Nat):Int)) rfl rfl (by omega) (by omega))<|wm<|wZ<|(show _∧_ from⟨rfl,_,?_,i+1,_,(c8,blk 65 [v96])::(c10,blk 3 [.int .i64 (rm.n - u2.n)])::(c11,blk 3 [.int .i64 (rm.b - ((u2.b+(s.get (kidOf x e).d).1.length:Nat):Int))])::Lv96,L2,Lv2++D',hlt,rfl,hr,?_,?_,?_,?_,rfl,rfl,rfl,rfl,rfl,rfl,hu1.symm,rfl,rfl,trivial⟩)
     ·omega
     ·have:=standP_good (s:=s) hrm m (x:=kidOf x e) (t:=push (kidOf x e) t') (push_good _ hg') (by rw[hv'])
      rw[hv'] at this
      exact this
     ·refine⟨v96,Lv96,T++[(⟨joinP x.p e.name,false,(s.get (kidOf x e).d).1⟩,.slice va2 (s.get (kidOf x e).d).1.length vc2)],rfl,?_,?_,?_⟩
      ·show OwnSl _ _ _ (u2.l++[_]).length _ _
       rw[length_append,rowsW_snoc];exact hv96
      ·show _=u2.l++[_]
       rw[map_append,hT];rfl
      ·intro u hu
       rw[append_assoc]
       rcases mem_append.1 hu with hu | hu
       ·exact(hTD u hu).mono mem_right
       ·obtain rfl:=mem_singleton.1 hu
        exact hHl2
     ·rw[append_assoc];exact hP2.mono mem_right
     ·rw[hu2,append_assoc];exact hs.tail
   ·cases h
  ·have ob:=hf.chain
   obtain⟨g,rfl⟩:=ob
   obtain rfl:i=l.length:=by omega
   rw[drop_of_length_le (by rw[length_map];exact Nat.le_refl _)] at hr
   obtain rfl:=hr
   refine sr<|wV (run_bF (run_lss rfl rfl) (by omega))<|wZ<|cq<|CW.cond rfl (fun h=>?_) (fun h=>?_)
   ·cases h
   refine CW.exit<|sr<|wA<|wZ<|CW.ret ?_
   refine fin_ret1 rfl ?_
   exact⟨W',L',D',rfl,fun _=>hW',hR',Step.narrow2 hw (Step.dropL hs).tail⟩
end
theorem Step.thd{S:List Nat}{a b c:Nat×Obj}{X:List (Nat×Obj)}{w w':World} (h:Step S (a::b::c::X) w w'):Step S (c::a::b::X) w w':=h.perm (by classical exact perm_iff_count.2 fun x=>by simp only[count_cons];omega)
section
variable{bp:Nat}{s:AS}{D L:List (Nat×Obj)}{d:List UInt8}{w0:World}{rn rd rb:Int}{N:Nat}
set_option maxHeartbeats 8000000 in
theorem load_spec (hR:PRep bp s D L) (ok:s.Ok) (hfew:s.Few N) (hN:N<1000000000000) (hd:d.length=32) (hrm:(rmOf rn rd rb).Ok) (hw:Lives (L++D) w0) :
  CP 27 #[.pointer (some ⟨bp,0,none⟩),.agg (u8s d).toArray,.agg #[.int .i64 rn,.int .i64 rd,.int .i64 rb]] w0 fun e w'=>∃v T Lv L' D',e=.returned (.tuple #[v,.int .i64 (runs s (rmOf rn rd rb) [rootS d] ws0).1])∧
   PRep bp (s.gotN (runs s (rmOf rn rd rb) [rootS d] ws0).2.g) (D'++D) L'∧OwnSl 155 3 v T.length (rowsW T) Lv∧((runs s (rmOf rn rd rb) [rootS d] ws0).1=0→T.map (·.1)=(runs s (rmOf rn rd rb) [rootS d] ws0).2.l)∧((runs s (rmOf rn rd rb) [rootS d] ws0).1≠0→T=[])∧(∀u∈T,Held (D'++D) u.2 u.1.x)∧Step (L.map (·.1)) (L'++(Lv++D')) w0 w':=by
 rw[runs_root]
 have hdl:(u8s d).length=32:=by rw[u8s,length_map,hd]
 have hs:Step (List.map (·.1) (L++D)) (L++D) w0 w0:=hw
 have ob:∃rm,rmOf rn rd rb=rm:=⟨_,rfl⟩
 obtain⟨rm,hrme⟩:=ob
 have e1:minZ rd 32=rm.d:=by rw[←hrme];rfl
 have e2:minZ rn 65536=rm.n:=by rw[←hrme];rfl
 have e3:minZ rb 67108864=rm.b:=by rw[←hrme];rfl
 rw[hrme] at hrm⊢
 refine calls (n:=33) Tryz.func27 rfl rfl rfl ?_
 refine sr<|WL.box rfl (rfl) rfl hs (fun b3 w hs=>?_)
 refine WL.box (cs:=u8s d) rfl rfl rfl hs (fun b4 w hs=>?_)
 refine WL.box (cs:=[.int .i64 rn,.int .i64 rd,.int .i64 rb]) rfl rfl rfl hs (fun b5 w hs=>?_)
 refine wA<|wA<|wZ<|sr<|WL.alloc ty65 rfl hs (fun b8 w hs=>?_)
 refine wZ ?_
 replace hs:=(show Step (List.map (·.1) (L++D)) ((b8,blk 65 [.slice none 0 0])::(b5,blk 30 [.int .i64 rn,.int .i64 rd,.int .i64 rb])::(b4,blk 44 (u8s d))::(b3,blk 39 [.pointer (some ⟨bp,0,none⟩)])::(L++D)) w0 w from hs)
 refine CW.seqM (fun f w=>∃b9 b10 b11,Step (List.map (·.1) (L++D)) ((b9,blk 3 [.int .i64 rm.d])::(b10,blk 3 [.int .i64 rm.n])::(b11,blk 3 [.int .i64 rm.b])::(b8,blk 65 [.slice none 0 0])::(b5,blk 30 [.int .i64 rn,.int .i64 rd,.int .i64 rb])::(b4,blk 44 (u8s d))::(b3,blk 39 [.pointer (some ⟨bp,0,none⟩)])::(L++D)) w0 w∧Holds f [(3,.pointer (some ⟨b3,0,none⟩)),(4,.pointer (some ⟨b4,0,none⟩)),(8,.pointer (some ⟨b8,0,none⟩)),(9,.pointer (some ⟨b9,0,none⟩)),(10,.pointer (some ⟨b10,0,none⟩)),(11,.pointer (some ⟨b11,0,none⟩))]) ?_ ?_
 ·skip
  refine CW.any (A:=fun w=>w.heap[b5]?=some (blk 30 [.int .i64 rn,.int .i64 rd,.int .i64 rb])) (C:=fun w=>w.heap[b5]?=some (blk 30 [.int .i64 rn,.int .i64 rd,.int .i64 rb])) 1000000 15 mixedP rfl ?_
  replace hs:=hs.drew
  refine aV 0 rfl (fun w hs=>run_field (o':=1) u30 rfl ty3 rfl rfl rfl)<|aV 1 rfl (fun w hs=>run_load1 ty3 rfl ((At.of_blk hs).cell (j:=1) rfl))<|aV 2 rfl (fun w hs=>run_minZ rfl rfl)<|aV 3 rfl (fun w hs=>run_field (o':=0) u30 rfl ty3 rfl rfl rfl)<|aV 4 rfl (fun w hs=>run_load1 ty3 rfl ((At.of_blk hs).cell (j:=0) rfl))<|aV 5 rfl (fun w hs=>run_minZ rfl rfl)<|aV 6 rfl (fun w hs=>run_field (o':=2) u30 rfl ty3 rfl rfl rfl)<|aV 7 rfl (fun w hs=>run_load1 ty3 rfl ((At.of_blk hs).cell (j:=2) rfl))<|aV 8 rfl (fun w hs=>run_minZ rfl rfl)<|AL.three 9 10 11 (by kernel_rfl) rfl rfl rfl (hs.has (b5,blk 30 [.int .i64 rn,.int .i64 rd,.int .i64 rb]) (by simp)) (hs.has (b5,blk 30 [.int .i64 rn,.int .i64 rd,.int .i64 rb]) (by simp)) ?_ ?_ ?_
  ·refine WL.alloc ty3 rfl hs (fun b9 w hs=>?_)
   refine wZ<|⟨rfl,?_⟩
   refine AL.two 10 11 (by kernel_rfl) rfl rfl (hs.has (b5,blk 30 [.int .i64 rn,.int .i64 rd,.int .i64 rb]) (by simp)) (hs.has (b5,blk 30 [.int .i64 rn,.int .i64 rd,.int .i64 rb]) (by simp)) ?_ ?_
   ·refine WL.alloc ty3 rfl hs (fun b10 w hs=>?_)
    refine wZ<|⟨rfl,?_⟩
    refine AL.one 11 (by kernel_rfl) rfl (hs.has (b5,blk 30 [.int .i64 rn,.int .i64 rd,.int .i64 rb]) (by simp)) (hs.has (b5,blk 30 [.int .i64 rn,.int .i64 rd,.int .i64 rb]) (by simp)) ?_
    refine WL.alloc ty3 rfl hs (fun b11 w hs=>?_)
    refine wZ<|⟨rfl,?_⟩
    refine AL.one 12 (by kernel_rfl) rfl (hs.has (b5,blk 30 [.int .i64 rn,.int .i64 rd,.int .i64 rb]) (by simp)) (hs.has (b5,blk 30 [.int .i64 rn,.int .i64 rd,.int .i64 rb]) (by simp)) ?_
    refine ws1 ty3 rfl rfl (rfl) ((by exact Step.thd hs)) (fun w hs=>?_)
    refine wZ<|⟨rfl,?_⟩
    refine AL.one 13 (by kernel_rfl) rfl (hs.has (b5,blk 30 [.int .i64 rn,.int .i64 rd,.int .i64 rb]) (by simp)) (hs.has (b5,blk 30 [.int .i64 rn,.int .i64 rd,.int .i64 rb]) (by simp)) ?_
    refine ws1 ty3 rfl rfl (rfl) ((by exact Step.thd hs)) (fun w hs=>?_)
    refine wZ<|⟨rfl,?_⟩
    refine AL.one 14 (by kernel_rfl) rfl (hs.has (b5,blk 30 [.int .i64 rn,.int .i64 rd,.int .i64 rb]) (by simp)) (hs.has (b5,blk 30 [.int .i64 rn,.int .i64 rd,.int .i64 rb]) (by simp)) ?_
    refine ws1 ty3 rfl rfl (rfl) ((by exact Step.thd hs)) (fun w hs=>?_)
    refine wZ<|⟨rfl,?_⟩
    refine AL.end (by kernel_rfl) (hs.has (b5,blk 30 [.int .i64 rn,.int .i64 rd,.int .i64 rb]) (by simp)) (hs.has (b5,blk 30 [.int .i64 rn,.int .i64 rd,.int .i64 rb]) (by simp)) ?_
    replace hs:=(show Step (List.map (·.1) (L++D)) ((b11,blk 3 [.int .i64 (minZ rb 67108864)])::(b10,blk 3 [.int .i64 (minZ rn 65536)])::(b9,blk 3 [.int .i64 (minZ rd 32)])::(b8,blk 65 [.slice none 0 0])::(b5,blk 30 [.int .i64 rn,.int .i64 rd,.int .i64 rb])::(b4,blk 44 (u8s d))::(b3,blk 39 [.pointer (some ⟨bp,0,none⟩)])::(L++D)) w0 w from hs)
    rw[e1,e2,e3] at hs
    exact⟨rfl,b9,b10,b11,hs.perm (by classical exact perm_iff_count.2 fun x=>by simp only[count_append,count_cons,count_nil];omega),rfl,rfl,rfl,rfl,rfl,rfl,trivial⟩
   ·refine WL.alloc ty3 rfl hs (fun b11 w hs=>?_)
    refine wZ<|⟨rfl,?_⟩
    refine AL.one 10 (by kernel_rfl) rfl (hs.has (b5,blk 30 [.int .i64 rn,.int .i64 rd,.int .i64 rb]) (by simp)) (hs.has (b5,blk 30 [.int .i64 rn,.int .i64 rd,.int .i64 rb]) (by simp)) ?_
    refine WL.alloc ty3 rfl hs (fun b10 w hs=>?_)
    refine wZ<|⟨rfl,?_⟩
    refine AL.one 12 (by kernel_rfl) rfl (hs.has (b5,blk 30 [.int .i64 rn,.int .i64 rd,.int .i64 rb]) (by simp)) (hs.has (b5,blk 30 [.int .i64 rn,.int .i64 rd,.int .i64 rb]) (by simp)) ?_
    refine ws1 ty3 rfl rfl (rfl) ((by exact Step.thd hs)) (fun w hs=>?_)
    refine wZ<|⟨rfl,?_⟩
    refine AL.one 13 (by kernel_rfl) rfl (hs.has (b5,blk 30 [.int .i64 rn,.int .i64 rd,.int .i64 rb]) (by simp)) (hs.has (b5,blk 30 [.int .i64 rn,.int .i64 rd,.int .i64 rb]) (by simp)) ?_
    refine ws1 ty3 rfl rfl (rfl) ((by exact hs.swap)) (fun w hs=>?_)
    refine wZ<|⟨rfl,?_⟩
    refine AL.one 14 (by kernel_rfl) rfl (hs.has (b5,blk 30 [.int .i64 rn,.int .i64 rd,.int .i64 rb]) (by simp)) (hs.has (b5,blk 30 [.int .i64 rn,.int .i64 rd,.int .i64 rb]) (by simp)) ?_
    refine ws1 ty3 rfl rfl (rfl) ((by exact Step.thd hs)) (fun w hs=>?_)
    refine wZ<|⟨rfl,?_⟩
    refine AL.end (by kernel_rfl) (hs.has (b5,blk 30 [.int .i64 rn,.int .i64 rd,.int .i64 rb]) (by simp)) (hs.has (b5,blk 30 [.int .i64 rn,.int .i64 rd,.int .i64 rb]) (by simp)) ?_
    replace hs:=(show Step (List.map (·.1) (L++D)) ((b11,blk 3 [.int .i64 (minZ rb 67108864)])::(b10,blk 3 [.int .i64 (minZ rn 65536)])::(b9,blk 3 [.int .i64 (minZ rd 32)])::(b8,blk 65 [.slice none 0 0])::(b5,blk 30 [.int .i64 rn,.int .i64 rd,.int .i64 rb])::(b4,blk 44 (u8s d))::(b3,blk 39 [.pointer (some ⟨bp,0,none⟩)])::(L++D)) w0 w from hs)
    rw[e1,e2,e3] at hs
    exact⟨rfl,b9,b10,b11,hs.perm (by classical exact perm_iff_count.2 fun x=>by simp only[count_append,count_cons,count_nil];omega),rfl,rfl,rfl,rfl,rfl,rfl,trivial⟩
  ·refine WL.alloc ty3 rfl hs (fun b10 w hs=>?_)
   refine wZ<|⟨rfl,?_⟩
   refine AL.two 9 11 (by kernel_rfl) rfl rfl (hs.has (b5,blk 30 [.int .i64 rn,.int .i64 rd,.int .i64 rb]) (by simp)) (hs.has (b5,blk 30 [.int .i64 rn,.int .i64 rd,.int .i64 rb]) (by simp)) ?_ ?_
   ·refine WL.alloc ty3 rfl hs (fun b9 w hs=>?_)
    refine wZ<|⟨rfl,?_⟩
    refine AL.one 11 (by kernel_rfl) rfl (hs.has (b5,blk 30 [.int .i64 rn,.int .i64 rd,.int .i64 rb]) (by simp)) (hs.has (b5,blk 30 [.int .i64 rn,.int .i64 rd,.int .i64 rb]) (by simp)) ?_
    refine WL.alloc ty3 rfl hs (fun b11 w hs=>?_)
    refine wZ<|⟨rfl,?_⟩
    refine AL.one 12 (by kernel_rfl) rfl (hs.has (b5,blk 30 [.int .i64 rn,.int .i64 rd,.int .i64 rb]) (by simp)) (hs.has (b5,blk 30 [.int .i64 rn,.int .i64 rd,.int .i64 rb]) (by simp)) ?_
    refine ws1 ty3 rfl rfl (rfl) ((by exact hs.swap)) (fun w hs=>?_)
    refine wZ<|⟨rfl,?_⟩
    refine AL.one 13 (by kernel_rfl) rfl (hs.has (b5,blk 30 [.int .i64 rn,.int .i64 rd,.int .i64 rb]) (by simp)) (hs.has (b5,blk 30 [.int .i64 rn,.int .i64 rd,.int .i64 rb]) (by simp)) ?_
    refine ws1 ty3 rfl rfl (rfl) ((by exact Step.thd hs)) (fun w hs=>?_)
    refine wZ<|⟨rfl,?_⟩
    refine AL.one 14 (by kernel_rfl) rfl (hs.has (b5,blk 30 [.int .i64 rn,.int .i64 rd,.int .i64 rb]) (by simp)) (hs.has (b5,blk 30 [.int .i64 rn,.int .i64 rd,.int .i64 rb]) (by simp)) ?_
    refine ws1 ty3 rfl rfl (rfl) ((by exact Step.thd hs)) (fun w hs=>?_)
    refine wZ<|⟨rfl,?_⟩
    refine AL.end (by kernel_rfl) (hs.has (b5,blk 30 [.int .i64 rn,.int .i64 rd,.int .i64 rb]) (by simp)) (hs.has (b5,blk 30 [.int .i64 rn,.int .i64 rd,.int .i64 rb]) (by simp)) ?_
    replace hs:=(show Step (List.map (·.1) (L++D)) ((b11,blk 3 [.int .i64 (minZ rb 67108864)])::(b10,blk 3 [.int .i64 (minZ rn 65536)])::(b9,blk 3 [.int .i64 (minZ rd 32)])::(b8,blk 65 [.slice none 0 0])::(b5,blk 30 [.int .i64 rn,.int .i64 rd,.int .i64 rb])::(b4,blk 44 (u8s d))::(b3,blk 39 [.pointer (some ⟨bp,0,none⟩)])::(L++D)) w0 w from hs)
    rw[e1,e2,e3] at hs
    exact⟨rfl,b9,b10,b11,hs.perm (by classical exact perm_iff_count.2 fun x=>by simp only[count_append,count_cons,count_nil];omega),rfl,rfl,rfl,rfl,rfl,rfl,trivial⟩
   ·refine WL.alloc ty3 rfl hs (fun b11 w hs=>?_)
    refine wZ<|⟨rfl,?_⟩
    refine AL.one 9 (by kernel_rfl) rfl (hs.has (b5,blk 30 [.int .i64 rn,.int .i64 rd,.int .i64 rb]) (by simp)) (hs.has (b5,blk 30 [.int .i64 rn,.int .i64 rd,.int .i64 rb]) (by simp)) ?_
    refine WL.alloc ty3 rfl hs (fun b9 w hs=>?_)
    refine wZ<|⟨rfl,?_⟩
    refine AL.one 12 (by kernel_rfl) rfl (hs.has (b5,blk 30 [.int .i64 rn,.int .i64 rd,.int .i64 rb]) (by simp)) (hs.has (b5,blk 30 [.int .i64 rn,.int .i64 rd,.int .i64 rb]) (by simp)) ?_
    refine ws1 ty3 rfl rfl (rfl) ((by exact hs)) (fun w hs=>?_)
    refine wZ<|⟨rfl,?_⟩
    refine AL.one 13 (by kernel_rfl) rfl (hs.has (b5,blk 30 [.int .i64 rn,.int .i64 rd,.int .i64 rb]) (by simp)) (hs.has (b5,blk 30 [.int .i64 rn,.int .i64 rd,.int .i64 rb]) (by simp)) ?_
    refine ws1 ty3 rfl rfl (rfl) ((by exact Step.thd hs)) (fun w hs=>?_)
    refine wZ<|⟨rfl,?_⟩
    refine AL.one 14 (by kernel_rfl) rfl (hs.has (b5,blk 30 [.int .i64 rn,.int .i64 rd,.int .i64 rb]) (by simp)) (hs.has (b5,blk 30 [.int .i64 rn,.int .i64 rd,.int .i64 rb]) (by simp)) ?_
    refine ws1 ty3 rfl rfl (rfl) ((by exact Step.thd hs)) (fun w hs=>?_)
    refine wZ<|⟨rfl,?_⟩
    refine AL.end (by kernel_rfl) (hs.has (b5,blk 30 [.int .i64 rn,.int .i64 rd,.int .i64 rb]) (by simp)) (hs.has (b5,blk 30 [.int .i64 rn,.int .i64 rd,.int .i64 rb]) (by simp)) ?_
    replace hs:=(show Step (List.map (·.1) (L++D)) ((b11,blk 3 [.int .i64 (minZ rb 67108864)])::(b10,blk 3 [.int .i64 (minZ rn 65536)])::(b9,blk 3 [.int .i64 (minZ rd 32)])::(b8,blk 65 [.slice none 0 0])::(b5,blk 30 [.int .i64 rn,.int .i64 rd,.int .i64 rb])::(b4,blk 44 (u8s d))::(b3,blk 39 [.pointer (some ⟨bp,0,none⟩)])::(L++D)) w0 w from hs)
    rw[e1,e2,e3] at hs
    exact⟨rfl,b9,b10,b11,hs.perm (by classical exact perm_iff_count.2 fun x=>by simp only[count_append,count_cons,count_nil];omega),rfl,rfl,rfl,rfl,rfl,rfl,trivial⟩
  ·refine WL.alloc ty3 rfl hs (fun b11 w hs=>?_)
   refine wZ<|⟨rfl,?_⟩
   refine AL.two 9 10 (by kernel_rfl) rfl rfl (hs.has (b5,blk 30 [.int .i64 rn,.int .i64 rd,.int .i64 rb]) (by simp)) (hs.has (b5,blk 30 [.int .i64 rn,.int .i64 rd,.int .i64 rb]) (by simp)) ?_ ?_
   ·refine WL.alloc ty3 rfl hs (fun b9 w hs=>?_)
    refine wZ<|⟨rfl,?_⟩
    refine AL.one 10 (by kernel_rfl) rfl (hs.has (b5,blk 30 [.int .i64 rn,.int .i64 rd,.int .i64 rb]) (by simp)) (hs.has (b5,blk 30 [.int .i64 rn,.int .i64 rd,.int .i64 rb]) (by simp)) ?_
    refine WL.alloc ty3 rfl hs (fun b10 w hs=>?_)
    refine wZ<|⟨rfl,?_⟩
    refine AL.one 12 (by kernel_rfl) rfl (hs.has (b5,blk 30 [.int .i64 rn,.int .i64 rd,.int .i64 rb]) (by simp)) (hs.has (b5,blk 30 [.int .i64 rn,.int .i64 rd,.int .i64 rb]) (by simp)) ?_
    refine ws1 ty3 rfl rfl (rfl) ((by exact hs.swap)) (fun w hs=>?_)
    refine wZ<|⟨rfl,?_⟩
    refine AL.one 13 (by kernel_rfl) rfl (hs.has (b5,blk 30 [.int .i64 rn,.int .i64 rd,.int .i64 rb]) (by simp)) (hs.has (b5,blk 30 [.int .i64 rn,.int .i64 rd,.int .i64 rb]) (by simp)) ?_
    refine ws1 ty3 rfl rfl (rfl) ((by exact hs.swap)) (fun w hs=>?_)
    refine wZ<|⟨rfl,?_⟩
    refine AL.one 14 (by kernel_rfl) rfl (hs.has (b5,blk 30 [.int .i64 rn,.int .i64 rd,.int .i64 rb]) (by simp)) (hs.has (b5,blk 30 [.int .i64 rn,.int .i64 rd,.int .i64 rb]) (by simp)) ?_
    refine ws1 ty3 rfl rfl (rfl) ((by exact Step.thd hs)) (fun w hs=>?_)
    refine wZ<|⟨rfl,?_⟩
    refine AL.end (by kernel_rfl) (hs.has (b5,blk 30 [.int .i64 rn,.int .i64 rd,.int .i64 rb]) (by simp)) (hs.has (b5,blk 30 [.int .i64 rn,.int .i64 rd,.int .i64 rb]) (by simp)) ?_
    replace hs:=(show Step (List.map (·.1) (L++D)) ((b11,blk 3 [.int .i64 (minZ rb 67108864)])::(b10,blk 3 [.int .i64 (minZ rn 65536)])::(b9,blk 3 [.int .i64 (minZ rd 32)])::(b8,blk 65 [.slice none 0 0])::(b5,blk 30 [.int .i64 rn,.int .i64 rd,.int .i64 rb])::(b4,blk 44 (u8s d))::(b3,blk 39 [.pointer (some ⟨bp,0,none⟩)])::(L++D)) w0 w from hs)
    rw[e1,e2,e3] at hs
    exact⟨rfl,b9,b10,b11,hs.perm (by classical exact perm_iff_count.2 fun x=>by simp only[count_append,count_cons,count_nil];omega),rfl,rfl,rfl,rfl,rfl,rfl,trivial⟩
   ·refine WL.alloc ty3 rfl hs (fun b10 w hs=>?_)
    refine wZ<|⟨rfl,?_⟩
    refine AL.one 9 (by kernel_rfl) rfl (hs.has (b5,blk 30 [.int .i64 rn,.int .i64 rd,.int .i64 rb]) (by simp)) (hs.has (b5,blk 30 [.int .i64 rn,.int .i64 rd,.int .i64 rb]) (by simp)) ?_
    refine WL.alloc ty3 rfl hs (fun b9 w hs=>?_)
    refine wZ<|⟨rfl,?_⟩
    refine AL.one 12 (by kernel_rfl) rfl (hs.has (b5,blk 30 [.int .i64 rn,.int .i64 rd,.int .i64 rb]) (by simp)) (hs.has (b5,blk 30 [.int .i64 rn,.int .i64 rd,.int .i64 rb]) (by simp)) ?_
    refine ws1 ty3 rfl rfl (rfl) ((by exact hs)) (fun w hs=>?_)
    refine wZ<|⟨rfl,?_⟩
    refine AL.one 13 (by kernel_rfl) rfl (hs.has (b5,blk 30 [.int .i64 rn,.int .i64 rd,.int .i64 rb]) (by simp)) (hs.has (b5,blk 30 [.int .i64 rn,.int .i64 rd,.int .i64 rb]) (by simp)) ?_
    refine ws1 ty3 rfl rfl (rfl) ((by exact hs.swap)) (fun w hs=>?_)
    refine wZ<|⟨rfl,?_⟩
    refine AL.one 14 (by kernel_rfl) rfl (hs.has (b5,blk 30 [.int .i64 rn,.int .i64 rd,.int .i64 rb]) (by simp)) (hs.has (b5,blk 30 [.int .i64 rn,.int .i64 rd,.int .i64 rb]) (by simp)) ?_
    refine ws1 ty3 rfl rfl (rfl) ((by exact Step.thd hs)) (fun w hs=>?_)
    refine wZ<|⟨rfl,?_⟩
    refine AL.end (by kernel_rfl) (hs.has (b5,blk 30 [.int .i64 rn,.int .i64 rd,.int .i64 rb]) (by simp)) (hs.has (b5,blk 30 [.int .i64 rn,.int .i64 rd,.int .i64 rb]) (by simp)) ?_
    replace hs:=(show Step (List.map (·.1) (L++D)) ((b11,blk 3 [.int .i64 (minZ rb 67108864)])::(b10,blk 3 [.int .i64 (minZ rn 65536)])::(b9,blk 3 [.int .i64 (minZ rd 32)])::(b8,blk 65 [.slice none 0 0])::(b5,blk 30 [.int .i64 rn,.int .i64 rd,.int .i64 rb])::(b4,blk 44 (u8s d))::(b3,blk 39 [.pointer (some ⟨bp,0,none⟩)])::(L++D)) w0 w from hs)
    rw[e1,e2,e3] at hs
    exact⟨rfl,b9,b10,b11,hs.perm (by classical exact perm_iff_count.2 fun x=>by simp only[count_append,count_cons,count_nil];omega),rfl,rfl,rfl,rfl,rfl,rfl,trivial⟩
 clear hs
 rintro f w ⟨b9,b10,b11,hs,hf⟩
 have ob:=hf.chain
 obtain⟨g,rfl⟩:=ob
 refine sr<|wV (run_makeFuncC rfl)<|WL.alloc ty150 rfl hs (fun b12 w hs=>?_)
 refine ws1 ty150 rfl rfl (rfl) hs (fun w hs=>?_)
 refine wZ<|sr<|WL.alloc ty151 rfl hs (fun b13 w hs=>?_)
 refine wZ<|sr<|wV (run_makeFuncC rfl)<|ws1 ty151 rfl rfl (rfl) hs (fun w hs=>?_)
 refine wZ ?_
 have ob:∃K,[(b3,blk 39 [.pointer (some ⟨bp,0,none⟩)]),(b9,blk 3 [.int .i64 rm.d]),(b12,blk 150 [.func (.func 75) #[] #[.pointer (some ⟨b9,0,none⟩),.pointer (some ⟨b10,0,none⟩),.pointer (some ⟨b3,0,none⟩)]]),(b13,blk 151 [.func (.func 77) #[] #[.pointer (some ⟨b12,0,none⟩),.pointer (some ⟨b8,0,none⟩),.pointer (some ⟨b13,0,none⟩),.pointer (some ⟨b11,0,none⟩)]])]=K:=⟨_,rfl⟩
 obtain⟨K,hK0⟩:=ob
 have hK:LdK b3 b8 b9 b10 b11 b12 b13 bp rm (K++D):=by rw[←hK0];exact⟨by simp,by simp,by simp,by simp⟩
 replace hs:Step (List.map (·.1) (L++D)) ([(b5,blk 30 [.int .i64 rn,.int .i64 rd,.int .i64 rb]),(b4,blk 44 (u8s d))]++(((b8,blk 65 [.slice none 0 0])::(b10,blk 3 [.int .i64 rm.n])::(b11,blk 3 [.int .i64 rm.b])::([]:List (Nat×Obj)))++(L++(K++D)))) w0 w:=by
  rw[←hK0]
  exact(show Step (List.map (·.1) (L++D)) ((b13,blk 151 [.func (.func 77) #[] #[.pointer (some ⟨b12,0,none⟩),.pointer (some ⟨b8,0,none⟩),.pointer (some ⟨b13,0,none⟩),.pointer (some ⟨b11,0,none⟩)]])::(b12,blk 150 [.func (.func 75) #[] #[.pointer (some ⟨b9,0,none⟩),.pointer (some ⟨b10,0,none⟩),.pointer (some ⟨b3,0,none⟩)]])::(b9,blk 3 [.int .i64 rm.d])::(b10,blk 3 [.int .i64 rm.n])::(b11,blk 3 [.int .i64 rm.b])::(b8,blk 65 [.slice none 0 0])::(b5,blk 30 [.int .i64 rn,.int .i64 rd,.int .i64 rb])::(b4,blk 44 (u8s d))::(b3,blk 39 [.pointer (some ⟨bp,0,none⟩)])::(L++D)) w0 w from hs).perm (by classical exact perm_iff_count.2 fun x=>by simp only[count_append,count_cons,count_nil];omega)
 have hW0:LdW b8 b10 b11 rm ws0 (K++D) ((b8,blk 65 [.slice none 0 0])::(b10,blk 3 [.int .i64 rm.n])::(b11,blk 3 [.int .i64 rm.b])::([]:List (Nat×Obj))):=⟨.slice none 0 0,[],[],by rw[show rm.n - ((ws0.n:Nat):Int)=rm.n by show rm.n - ((0:Nat):Int)=rm.n;omega,show rm.b - ((ws0.b:Nat):Int)=rm.b by show rm.b - ((0:Nat):Int)=rm.b;omega],OwnSl.nil _ _,rfl,fun u hu=>by cases hu⟩
 have hwk:=fun{w1:World} h=>ldw_spec (w0:=w1) (x:=rootS d) (t:=ws0) ok hrm hfew hN 34 rfl rfl hd (by simp[rootS]) (ws0_good.mono (by omega)) hK hW0 (hR.mono mem_right) h
 have ob:∃r,standP s rm 34 (rootS d) ws0=r:=⟨_,rfl⟩
 obtain⟨r,hr⟩:=ob
 rw[hr] at hwk⊢
 have h13:(b13,blk 151 [.func (.func 77) #[] #[.pointer (some ⟨b12,0,none⟩),.pointer (some ⟨b8,0,none⟩),.pointer (some ⟨b13,0,none⟩),.pointer (some ⟨b11,0,none⟩)]])∈K++D:=hK.m13
 refine cq<|sr<|wl ty151 rfl ((Step.inD (A:=[_,_]) (W:=_::_::_::[]) hs h13 rfl))<|wV (run_loadN ty44 rfl hdl hs.a1)<|wE rfl (run_callV (cap:=[.pointer (some ⟨b12,0,none⟩),.pointer (some ⟨b8,0,none⟩),.pointer (some ⟨b13,0,none⟩),.pointer (some ⟨b11,0,none⟩)]) en77 rfl rfl) (hwk (Lives.mk hs.tail.tail)) ?_
 rintro e w ⟨W1,L1,D1,rfl,hW1,hP1,hq⟩
 refine⟨_,rfl,?_⟩
 replace hs:=Step.wput (A:=[_,_]) (W:=_::_::_::[]) hs hq
 refine wA<|wZ ?_
 by_cases he:r.1≠0
 ·refine sr<|wm<|wV (run_bT (run_neq rfl rfl) (by exact he))<|wZ<|CW.cond rfl (fun h=>?_) (fun h=>?_)
  ·refine sr<|wm<|wA<|wA<|wZ<|CW.ret ?_
   refine fin_ret2 rfl ?_
   exact⟨_,[],[],L1,D1++K,rfl,by rw[append_assoc];exact hP1,OwnSl.nil _ _,(fun h=>absurd h he),(fun _=>rfl),(fun u hu=>by cases hu),Step.fin (M:=[]) hw (by rw[append_assoc];exact Step.dropL (L1:=W1) hs.tail.tail)⟩
  ·cases h
 have he0:r.1=0:=by simpa using he
 have ob:=hW1 he0
 obtain⟨vL,LL,T,rfl,hvL,hT,hTD⟩:=ob
 have hTl:T.length=r.2.l.length:=by rw[←hT,length_map]
 have ob:=hvL.form
 obtain⟨la,lc,rfl⟩:=ob
 refine sr<|wm<|wV (run_bF (run_neq rfl rfl) (by exact he))<|wZ<|CW.cond rfl (fun h=>?_) (fun h=>?_)
 ·cases h
 replace hs:=hs.tail.tail
 refine ck<|sr<|wl ty65 rfl (hs.c0 (v:=.slice la r.2.l.length lc) rfl)<|wA<|wA<|wZ<|CW.ret ?_
 refine fin_ret2 rfl ?_
 exact⟨_,T,LL,L1,D1++K,congrArg (fun z=>Ending.returned (.tuple #[.slice la r.2.l.length lc,.int .i64 z])) he0.symm,by rw[append_assoc];exact hP1,by rw[hTl];exact hvL,(fun _=>hT),(fun h=>absurd he0 h),(fun u hu=>by rw[append_assoc];exact hTD u hu),Step.fin (M:=LL) hw (by rw[append_assoc];exact hs.tail.tail.tail)⟩
end
end Go.Gx
namespace Go.Gx
open Go.Proofs List
attribute [local irreducible] shaL cutD frontL decL decE
abbrev MLe (t u:WS):Prop:=∀p∈t.m,p∈u.m
theorem push_mle (x:Std) (t:WS):MLe t (push x t):=by
 intro p hp
 rw[push_m];exact hp
section
variable {s s':AS}{rm:Rm}
theorem visit_mle (x:Std) (t:WS):MLe t (visit s rm x t).2.2:=by
 unfold visit
 split
 ·exact fun _ h=>h
 ·split
  ·exact fun _ h=>h
  ·split
   ·exact fun _ h=>mem_append_left _ h
   ·split
    ·split
     ·exact fun _ h=>mem_append_left _ h
     ·exact fun _ h=>mem_append_left _ h
    ·split
     ·exact fun _ h=>mem_append_left _ h
     ·exact fun _ h=>mem_append_left _ h
theorem seqS_mle{f:Std→WS→Int×WS} (hf:∀x t,MLe t (f x t).2):∀(l:List Std) (t:WS),MLe t (seqS f l t).2
 | [],t=>fun _ h=>h
 | x::l,t=>by
  rw[seqS]
  split
  ·exact hf x t
  ·exact fun p hp=>seqS_mle hf l _ p (hf x t p hp)
theorem standP_mle:∀(n:Nat) (x:Std) (t:WS),MLe t (standP s rm n x t).2
 | 0,x,t=>fun _ h=>h
 | n+1,x,t=>by
  rw[standP]
  split
  ·exact visit_mle x t
  ·exact fun p hp=>seqS_mle (fun y u p hp=>standP_mle n y (push y u) p (push_mle y u p hp)) _ _ p (visit_mle x t p hp)
theorem visit_met{x:Std}{t:WS} (h:(visit s rm x t).1=0):(x.d,x.dir)∈(visit s rm x t).2.2.m:=by
 by_cases c1:rm.d<x.dep
 ·rw[visit,if_pos c1] at h;cases h
 by_cases c2:rm.n<(t.n:Int)+1
 ·rw[visit,if_neg c1,if_pos c2] at h;cases h
 have hm:∀u:WS,u.m=t.m++[(x.d,x.dir)]→(x.d,x.dir)∈u.m:=fun u h=>by rw[h];simp
 rw[visit,if_neg c1,if_neg c2]
 split
 ·exact hm _ rfl
 ·split
  ·split
   ·exact hm _ rfl
   ·exact hm _ rfl
  ·split
   ·exact hm _ rfl
   ·exact hm _ rfl
theorem visit_same{x:Std}{t:WS} (h:s'.get x.d=s.get x.d):visit s' rm x t=visit s rm x t:=by
 unfold visit
 rw[h]
theorem seqS_same {f f':Std→WS→Int×WS}{T:WS} (hf:∀x t,MLe t (f x t).2):∀(l:List Std) (t:WS),(∀y∈l,∀u,(f y u).1=0→MLe (f y u).2 T→f' y u=f y u)→(seqS f l t).1=0→MLe (seqS f l t).2 T→seqS f' l t=seqS f l t
 | [],t,_,_,_=>rfl
 | y::l,t,h,h0,hT=>by
  by_cases c:(f y t).1≠0
  ·rw[seqS,if_pos c] at h0
   exact absurd h0 c
  rw[seqS,if_neg c] at h0 hT
  have hp:=seqS_mle hf l (f y t).2
  have e:=h y (by simp) t (by simpa using c) (fun p hq=>hT p (hp p hq))
  rw[seqS,seqS,e,if_neg c,if_neg c]
  exact seqS_same hf l _ (fun z hz=>h z (by simp[hz])) h0 hT
theorem standP_same{T:WS} (hg:∀p∈T.m,s'.get p.1=s.get p.1):∀(n:Nat) (x:Std) (t:WS),(standP s rm n x t).1=0→MLe (standP s rm n x t).2 T→standP s' rm n x t=standP s rm n x t
 | 0,x,t,h,_=>by rw[standP] at h;cases h
 | n+1,x,t,h,hT=>by
  have hv:(visit s rm x t).1=0:=by
   by_cases c:(visit s rm x t).1=0
   ·exact c
   ·rw[standP,if_pos c] at h
    exact absurd h c
  rw[standP,if_neg (fun k=>k hv)] at h hT
  have hp:=seqS_mle (fun y u p hp=>standP_mle (s:=s) (rm:=rm) n y (push y u) p (push_mle y u p hp)) (visit s rm x t).2.1 (visit s rm x t).2.2
  have e:=visit_same (s:=s) (s':=s') (rm:=rm) (x:=x) (t:=t) (hg _ (hT _ (hp _ (visit_met hv))))
  rw[standP,standP,e,if_neg (fun k=>k hv),if_neg (fun k=>k hv)]
  exact seqS_same (fun y u p hp=>standP_mle n y (push y u) p (push_mle y u p hp)) _ _ (fun y hy u h1 h2=>standP_same hg n y (push y u) h1 h2) h hT
theorem runs_same{d:List UInt8} (h:(runs s rm [rootS d] ws0).1=0) (hg:∀p∈(runs s rm [rootS d] ws0).2.m,s'.get p.1=s.get p.1):runs s' rm [rootS d] ws0=runs s rm [rootS d] ws0:=by
 rw[runs_root,runs_root] at *
 exact standP_same hg 34 _ _ h fun _ h=>h
end
end Go.Gx
namespace Go.Gx
open Go.Proofs List
attribute [local irreducible] shaL cutD frontL
section
variable{P:Program}{f:Slots}{w:World}{d:Option Tmp}{ty:TypeId}{pos:String}{af:Array Edge}{x y:Operand}{T T':TypeId}
theorem run_neSelf{b:Bool} (ht:P.underlying T=some .bool) (hx:ev f x=.bool b) (hy:ev f y=.bool b):(execOp (ev f) ⟨d,.binOp .neq T x y T',ty,pos,af,none⟩).run P w=.ok (.value (.bool false)) w:=by
 have h:=run_neqB (d:=d) (ty:=ty) (pos:=pos) (af:=af) (T':=T') (w:=w) ht hx hy
 rw[h]
 cases b <;> rfl
end
theorem rowsSl{w:World}{u:Value}{T:List (WI×Value)} (h:Sl w 3 u T.length (rowsW T)) (hl:0<T.length):∃b off c,u=.slice (some ⟨b,off,none⟩) T.length c∧At w b off (rowsW T):=by
 obtain⟨_,⟨_,_,h1,h2⟩ | ⟨b,off,c,h1,h2⟩⟩:=h
 ·omega
 ·exact⟨b,off,c,h1,h2⟩
set_option maxHeartbeats 4000000 in
theorem sameIt_spec{u v:Value}{T T':List (WI×Value)} (w0:World) (hu:Sl w0 3 u T.length (rowsW T)) (hv:Sl w0 3 v T'.length (rowsW T')) (hT:T.map (·.1)=T'.map (·.1)) (hd:∀t∈T,Sl w0 1 t.2 t.1.x.length (u8s t.1.x)) (hd':∀t∈T',Sl w0 1 t.2 t.1.x.length (u8s t.1.x)) (hlen:T.length<1099511627776) :
  CP 30 #[u,v] w0 (Ret0 (.bool true) w0):=by
 have hs:Step [] [] w0 w0:=Step.refl w0
 have hTl:T.length=T'.length:=by have h:=congrArg List.length hT;rwa [length_map,length_map] at h
 have hu0:=hu
 have hv0:=hv
 have ob:=hu.form
 obtain⟨ua,uc,rfl⟩:=ob
 have ob:=hv.form
 obtain⟨va,vc,rfl⟩:=ob
 refine calls (n:=56) Tryz.func30 rfl rfl rfl ?_
 refine sr<|wA<|wZ<|cq<|sr<|wm<|wV (run_lenSl u65 rfl)<|wm<|wV (run_lenSl u65 rfl)<|wV (run_bF (run_neq rfl rfl) (by omega))<|wZ<|CW.cond rfl (fun h=>?_) (fun h=>?_)
 ·cases h
 refine ck<|cq<|sr<|wA<|wZ<|cB<|CW.loop (fun z f w'=>∃i,i≤T.length∧z=T.length - i∧Step [] [] w0 w'∧Holds f [(0,.slice ua T.length uc),(1,.slice va T'.length vc),(5,.int .i64 (i:Nat))]) (m:=T.length) ?_ ?_
 ·exact⟨0,Nat.zero_le _,rfl,hs,rfl,rfl,rfl,trivial⟩
 clear hs
 rintro z f w ⟨i,hi,rfl,hs,hf⟩
 by_cases hlt:i<T.length
 ·have ob:∃t,T[i]?=some t:=⟨_,getElem?_eq_getElem hlt⟩
  obtain⟨t,ht⟩:=ob
  have ob:∃t',T'[i]?=some t':=⟨_,getElem?_eq_getElem (by omega)⟩
  obtain⟨t',ht'⟩:=ob
  have he:t.1=t'.1:=by
   have h1:(T.map (·.1))[i]?=some t.1:=by rw[getElem?_map,ht];rfl
   have h2:(T'.map (·.1))[i]?=some t'.1:=by rw[getElem?_map,ht'];rfl
   rw[hT,h2] at h1
   exact(Option.some.inj h1).symm
  have ob:=rowsSl hu0 (by omega)
  obtain⟨bu,ou,cu,hue,hua⟩:=ob
  have ob:=rowsSl hv0 (by omega)
  obtain⟨bv,ov,cv,hve,hva⟩:=ob
  rw[hue,hve] at hf
  have ob:=hf.chain
  obtain⟨g,rfl⟩:=ob
  have hr:=rowsW_at hua ht
  have hr':=rowsW_at hva ht'
  have h1:=hd t (mem_of_getElem? ht)
  have h2:=hd' t' (mem_of_getElem? ht')
  obtain⟨⟨p,dir,y⟩,v1⟩:=t
  obtain⟨i2,v2⟩:=t'
  obtain rfl:(⟨p,dir,y⟩:WI)=i2:=he
  refine cq<|sr<|wm<|wm<|wV (run_lenSl u65 rfl)<|wV (run_bT (run_lss rfl rfl) (by omega))<|wZ<|CW.cond rfl (fun h=>?_) (fun h=>?_)
  ·refine ck<|cq<|cB<|cq<|CW.quiet mixedP (by kernel_rfl) hs ?_
   refine qm<|qm<|qV (fun w hs=>run_ixSlN u65 ty155 rfl rfl (by omega))<|qF 0 u155 rfl ty9 rfl<|qV (fun w hs=>run_load1 ty9 rfl ((hr.step hs (by simp)).cell (j:=0) rfl))<|qm<|qm<|qV (fun w hs=>run_ixSlN u65 ty155 rfl rfl (by omega))<|qF 0 u155 rfl ty9 rfl<|qV (fun w hs=>run_load1 ty9 rfl ((hr'.step hs (by simp)).cell (j:=0) rfl))<|qV (fun w hs=>run_bF (run_strNe rfl rfl) (by exact fun h=>h rfl))<|qm<|qy<|qm ?_
   refine qy<|qm ?_
   refine qy ?_;(first | refine QL.val rfl (fun w hs=>run_ixSlN u65 ty155 rfl rfl (by omega)) ?_ | refine QL.val rfl (fun w hs=>run_ixSl u65 ty155 rfl rfl (by omega)) ?_)
   refine qy<|qF 1 u155 rfl ty4 rfl<|qy<|qV (fun w hs=>run_load1 ty4 rfl ((hr.step hs (by simp)).cell (j:=1) rfl))<|qy<|qm<|qy<|qm ?_
   refine qy ?_;(first | refine QL.val rfl (fun w hs=>run_ixSlN u65 ty155 rfl rfl (by omega)) ?_ | refine QL.val rfl (fun w hs=>run_ixSl u65 ty155 rfl rfl (by omega)) ?_)
   refine qy<|qF 1 u155 rfl ty4 rfl<|qy<|qV (fun w hs=>run_load1 ty4 rfl ((hr'.step hs (by simp)).cell (j:=1) rfl))<|qy<|qV (fun w hs=>run_neSelf u4 rfl rfl)<|qV (fun w hs=>run_pickF rfl)<|qm<|qy<|qm<|qy<|qm ?_
   refine qy ?_;(first | refine QL.val rfl (fun w hs=>run_ixSlN u65 ty155 rfl rfl (by omega)) ?_ | refine QL.val rfl (fun w hs=>run_ixSl u65 ty155 rfl rfl (by omega)) ?_)
   refine qy<|qF 2 u155 rfl ty76 rfl<|qy<|qV (fun w hs=>run_load1 ty76 rfl ((hr.step hs (by simp)).cell (j:=2) rfl))<|qy<|qV (fun w hs=>run_toString u76 u9 u5 rfl (h1.step0 hs))<|qy<|qm<|qy<|qm ?_
   refine qy ?_;(first | refine QL.val rfl (fun w hs=>run_ixSlN u65 ty155 rfl rfl (by omega)) ?_ | refine QL.val rfl (fun w hs=>run_ixSl u65 ty155 rfl rfl (by omega)) ?_)
   refine qy<|qF 2 u155 rfl ty76 rfl<|qy<|qV (fun w hs=>run_load1 ty76 rfl ((hr'.step hs (by simp)).cell (j:=2) rfl))<|qy<|qV (fun w hs=>run_toString u76 u9 u5 rfl (h2.step0 hs))<|qy<|qV (fun w hs=>run_bF (run_strNe rfl rfl) (by exact fun h=>h rfl))<|qV (fun w hs=>run_pickF rfl)<|QL.nil (fun w hs=>?_)
   refine CW.cond rfl (fun h=>?_) (fun h=>?_)
   ·cases h
   refine ck<|cr<|wm<|wV (run_add (c:=((i+1:Nat):Int)) rfl rfl (by omega) (by omega))<|wA<|wZ<|(show _∧_ from⟨rfl,_,?_,i+1,hlt,rfl,hs,hue.symm,hve.symm,rfl,trivial⟩)
   omega
  ·cases h
 ·have ob:=hf.chain
  obtain⟨g,rfl⟩:=ob
  obtain rfl:i=T.length:=by omega
  refine cq<|sr<|wm<|wm<|wV (run_lenSl u65 rfl)<|wV (run_bF (run_lss rfl rfl) (by omega))<|wZ<|CW.cond rfl (fun h=>?_) (fun h=>?_)
  ·cases h
  refine CW.exit<|sr<|wA<|wZ<|CW.ret ?_
  refine fin_ret1 rfl ?_
  exact⟨rfl,hs⟩
end Go.Gx
namespace Go.Gx
open Go.Proofs Go.RowKit List
attribute [local irreducible] shaL cutD frontL
section
variable{α:Type}{a b c e:α}{A B C D Y Z M:List α}
end
def HeldR (D:List (Nat×Obj)) (v:Value) (T:List (WI×Value)):Prop:=(∃Lt,OwnSl 155 3 v T.length (rowsW T) Lt∧∀p∈Lt,p∈D)∧∀u∈T,Held D u.2 u.1.x
def Trees (s:AS) (D:List (Nat×Obj)) (ds:List (List UInt8)) (B:List (Value×List (WI×Value))):Prop:=B.length=ds.length∧∀(j:Nat) (t:Value×List (WI×Value)) (d:List UInt8),B[j]?=some t→ds[j]?=some d→t.2.map (·.1)=(runs s rmG [rootS d] ws0).2.l∧HeldR D t.1 t.2
section
variable{wd:Int}{x:Stup}{v:Value}{l:List Int}
end
end Go.Gx
namespace Go.Gx
open Go.Proofs List
def blbsP (bs:List UInt8):Nat→Nat→Except Int (List (List UInt8)×Nat)
 | 0,p=>.ok ([],p)
 | n+1,p=>
  match bytesP bs p with
  | .error e=>.error e
  | .ok (x,q)=>if 1048576<x.length then .error 2 else
   match blbsP bs n q with
   | .error e=>.error e
   | .ok (l,r)=>.ok (x::l,r)
def pkP (k:Nat) (bs:List UInt8):Except Int (List (List UInt8)×Nat):=
 match numP bs 0 with
 | .error e=>.error e
 | .ok (t,p)=>if t=5 then
   match numP bs p with
   | .error e=>.error e
   | .ok (u,p2)=>if u=k then
     match numP bs p2 with
     | .error e=>.error e
     | .ok (n,q)=>if n=0∨65536<n then .error 81 else blbsP bs n q
    else .error 3
  else .error 52
def preB (l:List (List UInt8)):Except Int (List (List UInt8)×Nat)→Except Int (List (List UInt8)×Nat)
 | .error e=>.error e
 | .ok (m,q)=>.ok (l++m,q)
theorem preB_nil (r:Except Int (List (List UInt8)×Nat)):preB [] r=r:=by
 rcases r with e | ⟨m,q⟩ <;> rfl
theorem blbsP_step{bs:List UInt8}{n p q:Nat}{x:List UInt8} (l:List (List UInt8)) (h:bytesP bs p=.ok (x,q)) (hx:¬1048576<x.length):preB l (blbsP bs (n+1) p)=preB (l++[x]) (blbsP bs n q):=by
 conv=>lhs;unfold blbsP
 rw[h]
 simp only
 rw[if_neg hx]
 rcases blbsP bs n q with e | ⟨m,r⟩
 ·rfl
 ·simp[preB]
theorem blbsP_long{bs:List UInt8}{n p q:Nat}{x:List UInt8} (l:List (List UInt8)) (h:bytesP bs p=.ok (x,q)) (hx:1048576<x.length):preB l (blbsP bs (n+1) p)=.error 2:=by
 conv=>lhs;unfold blbsP
 rw[h]
 simp only
 rw[if_pos hx]
 rfl
theorem blbsP_stop{bs:List UInt8}{n p:Nat}{e:Int} (l:List (List UInt8)) (h:bytesP bs p=.error e):preB l (blbsP bs (n+1) p)=.error e:=by
 conv=>lhs;unfold blbsP
 rw[h]
 rfl
theorem blbsP_err{bs:List UInt8}:∀{n p:Nat}{e:Int},blbsP bs n p=.error e→e≠0
 | 0,p,e,h=>by cases h
 | n+1,p,e,h=>by
  unfold blbsP at h
  split at h
  ·rename_i h1;injection h with h;subst h;rcases bytesP_err h1 with h | h <;> omega
  ·split at h
   ·injection h with h;omega
   ·split at h
    ·rename_i h1;injection h with h;subst h;exact blbsP_err h1
    ·cases h
theorem pkP_err{k:Nat}{bs:List UInt8}{e:Int} (h:pkP k bs=.error e):e≠0:=by
 unfold pkP at h
 split at h
 ·rename_i h1;injection h with h;subst h;rcases numP_err h1 with h | h <;> omega
 ·split at h
  ·split at h
   ·rename_i h1;injection h with h;subst h;rcases numP_err h1 with h | h <;> omega
   ·split at h
    ·split at h
     ·rename_i h1;injection h with h;subst h;rcases numP_err h1 with h | h <;> omega
     ·split at h
      ·injection h with h;omega
      ·exact blbsP_err h
    ·injection h with h;omega
  ·injection h with h;omega
theorem blbsP_sum{bs:List UInt8}:∀{n p q:Nat}{l:List (List UInt8)},blbsP bs n p=.ok (l,q)→p≤bs.length→l.length=n∧p+(l.map List.length).sum≤q∧q≤bs.length∧∀x∈l,x.length≤1048576
 | 0,p,q,l,h,hp=>by
  unfold blbsP at h
  injection h with h;injection h with h1 h2;subst h1;subst h2
  exact⟨rfl,Nat.le_refl _,hp,fun x hx=>by cases hx⟩
 | n+1,p,q,l,h,hp=>by
  unfold blbsP at h
  split at h
  ·cases h
  ·rename_i x q1 h1
   have hb:=bytesP_ok h1
   have hx:p+x.length≤q1:=by
    unfold bytesP at h1
    split at h1
    ·cases h1
    ·rename_i u q0 h2
     have hn:=numP_ok h2
     split at h1
     ·cases h1
     ·injection h1 with h1;injection h1 with h3 h4
      subst h3;subst h4
      simp only[length_take,length_drop]
      omega
   split at h
   ·cases h
   ·rename_i hx2
    split at h
    ·cases h
    ·rename_i l2 r h2
     injection h with h;injection h with h3 h4
     subst h3;subst h4
     have ob:=blbsP_sum h2 hb.1
     obtain⟨e1,e2,e3,e4⟩:=ob
     refine⟨by rw[length_cons,e1],?_,e3,fun y hy=>?_⟩
     ·rw[map_cons,sum_cons];omega
     ·rcases mem_cons.1 hy with rfl | hy
      ·omega
      ·exact e4 y hy
theorem pkP_ok{k:Nat}{bs:List UInt8}{l:List (List UInt8)}{q:Nat} (h:pkP k bs=.ok (l,q)):l≠[]∧l.length≤65536∧(l.map List.length).sum≤bs.length∧q≤bs.length∧∀x∈l,x.length≤1048576:=by
 unfold pkP at h
 split at h
 ·cases h
 ·split at h
  ·split at h
   ·cases h
   ·split at h
    ·split at h
     ·cases h
     ·rename_i n q0 h3
      split at h
      ·cases h
      ·rename_i hn
       have ob:=blbsP_sum h (numP_ok h3).1
       obtain⟨e1,e2,e3,e4⟩:=ob
       refine⟨fun h0=>?_,by omega,by omega,e3,e4⟩
       subst h0
       have:n=0:=e1.symm
       omega
    ·cases h
  ·cases h
def UpR (b bl bk k:Nat) (bv:Value) (w0:World):Except Int (List (List UInt8)×Nat)→Ending→World→Prop
 | .ok (l,q),e,w'=>∃v B Lv LD,e=.returned (.tuple #[])∧B.map (·.2)=l∧OwnSl 76 1 v B.length (cellsB B) Lv∧BOk LD B∧Step [b,bl,bk] (RdB b bv q::(bl,blk 24 [v])::(bk,blk 3 [.int .i64 (k:Nat)])::(Lv++LD)) w0 w'
 | .error er,e,w'=>∃p v Lv,e=.panicked (pch b)∧v.oneCell'=true∧Step [b,bl,bk] (RF b bv p er::(bl,blk 24 [v])::(bk,blk 3 [.int .i64 (k:Nat)])::Lv) w0 w'
theorem UpR.err{b bl bk k:Nat}{bv:Value}{w0 w w':World}{er:Int}{r:Except Int (List (List UInt8)×Nat)}{p:Nat}{v:Value}{Lv:List (Nat×Obj)}{e:Ending} (hr:r=.error er) (hv:v.oneCell'=true) (hs:Step [b,bl,bk] (RdB b bv p::(bl,blk 24 [v])::(bk,blk 3 [.int .i64 (k:Nat)])::Lv) w0 w) (h:Thrown b bv er w e w'):UpR b bl bk k bv w0 r e w':=by
 subst hr
 obtain⟨p',he,h⟩:=h
 exact⟨p',v,Lv,he,hv,Step.call (L1:=[RdB b bv p]) hs h⟩
theorem UpR.ok{b bl bk k:Nat}{bv:Value}{w0 w':World}{r:Except Int (List (List UInt8)×Nat)}{l:List (List UInt8)}{q:Nat}{v:Value}{B:BL}{Lv LD:List (Nat×Obj)} (hr:r=.ok (l,q)) (hB:B.map (·.2)=l) (hv:OwnSl 76 1 v B.length (cellsB B) Lv) (hD:BOk LD B) (hs:Step [b,bl,bk] (RdB b bv q::(bl,blk 24 [v])::(bk,blk 3 [.int .i64 (k:Nat)])::(Lv++LD)) w0 w'):UpR b bl bk k bv w0 r (.returned (.tuple #[])) w':=by
 subst hr
 exact⟨v,B,Lv,LD,rfl,hB,hv,hD,hs⟩
theorem Step.u1{S:List Nat}{p x y:Nat×Obj}{Lx Lv LD:List (Nat×Obj)}{w w':World} (h:Step S ((p::Lx)++(x::y::(Lv++LD))) w w'):Step S (p::x::y::(Lv++(LD++Lx))) w w':=h.perm (by classical exact perm_iff_count.2 fun x=>by simp only[count_append,count_cons];omega)
theorem Step.u2{S:List Nat}{n p x y:Nat×Obj}{Lv X:List (Nat×Obj)}{w w':World} (h:Step S (n::p::x::y::(Lv++X)) w w'):Step S (Lv++(n::p::x::y::X)) w w':=h.perm (by classical exact perm_iff_count.2 fun x=>by simp only[count_append,count_cons];omega)
theorem Step.u3{S:List Nat}{n p x y:Nat×Obj}{Lv X:List (Nat×Obj)}{w w':World} (h:Step S (Lv++(n::p::x::y::X)) w w'):Step S (x::p::y::(Lv++X)) w w':=Step.tail (p:=n) (h.perm (by classical exact perm_iff_count.2 fun x=>by simp only[count_append,count_cons];omega))
set_option maxHeartbeats 2000000 in
theorem blobs1_at{b bl bk k:Nat}{bs:List UInt8}{bv:Value}{r:Except Int (List (List UInt8)×Nat)} (hr:pkP k bs=r) (w0:World) (hk:k≤32) (hsl:Sl w0 1 bv bs.length (u8s bs)) (hout:Outside bv [b,bl,bk]) (hroom:Room bv) (hlen:bs.length≤4194304)
  (hO:Step [b,bl,bk] (RdB b bv 0::(bl,blk 24 [.slice none 0 0])::(bk,blk 3 [.int .i64 (k:Nat)])::[]) w0 w0):CP 139 #[.pointer (some ⟨b,0,none⟩),.pointer (some ⟨bk,0,none⟩),.pointer (some ⟨bl,0,none⟩)] w0 (UpR b bl bk k bv w0 r):=by
 have hs:=hO
 have hout1:Outside bv [b]:=by
  unfold Outside at hout⊢
  split
  ·intro h;exact hout (by simp at h⊢;exact .inl h)
  ·trivial
 have rd:∀{w:World}{p:Nat}{L:List (Nat×Obj)},Step [b,bl,bk] (RdB b bv p::L) w0 w→RdOk w b bs bv p:=fun h=>⟨Step.own (L1:=[_]) h,hsl.step h hout,hout1,hroom,hlen⟩
 have hst:∀{w w':World}{p:Nat}{L L2:List (Nat×Obj)},Step [b,bl,bk] (RdB b bv p::L) w0 w→Step [b] L2 w w'→Step [b,bl,bk] (L2++L) w0 w':=fun h h2=>Step.call (L1:=[RdB b bv _]) h h2
 unfold pkP at hr
 cases h1:numP bs 0 with
 | error er=>
  rw[h1] at hr
  refine calls (n:=42) Tryz.func139 rfl rfl rfl ?_
  refine cq<|sr<|wm<|WL.enterX (run_call en126 rfl rfl) (num_at h1 _ (rd hs) (by omega)) ?_
  rintro e w ⟨p',rfl,hq⟩
  refine⟨_,rfl,?_⟩
  exact fin_panic (.err hr.symm rfl hs ⟨p',rfl,hq⟩)
 | ok tp=>
  obtain⟨t,p1⟩:=tp
  rw[h1] at hr
  have hb1:=numP_ok h1
  simp only at hr
  by_cases ht:t=5
  ·rw[if_pos ht] at hr
   subst ht
   cases h2:numP bs p1 with
   | error er=>
    rw[h2] at hr
    refine calls (n:=42) Tryz.func139 rfl rfl rfl ?_
    refine cq<|sr<|wm<|wE rfl (run_call en126 rfl rfl) (num_at h1 _ (rd hs) (by omega)) ?_
    rintro e w ⟨rfl,hq⟩
    refine⟨_,rfl,?_⟩
    replace hs:=hst hs hq
    refine wV (run_bF (run_neq rfl rfl) (by show ¬((5:Nat):Int)≠5;decide))<|wZ ?_
    have hc2:∀{w:World}{p:Nat},Step [b,bl,bk] (RdB b bv p::(bl,blk 24 [.slice none 0 0])::(bk,blk 3 [.int .i64 (k:Nat)])::[]) w0 w→w.heap[bk]?=some (blk 3 [.int .i64 (k:Nat)]):=fun h=>h.has (bk,blk 3 [.int .i64 (k:Nat)]) (by simp)
    refine cF rfl<|ck<|cq<|cq<|CW.any (A:=fun w=>w.heap[bk]?=some (blk 3 [.int .i64 (k:Nat)])) (C:=fun w=>w.heap[bk]?=some (blk 3 [.int .i64 (k:Nat)])) 1000000 4 mixedP rfl ?_
    replace hs:=hs.drew
    refine aM 0 rfl<|aV 2 rfl (fun w hs=>run_load1 ty3 rfl ((At.of_blk hs).cell (j:=0) rfl))<|AL.one 1 (by kernel_rfl) rfl (hc2 hs) (hc2 hs) ?_
    refine WL.enterX (run_call en126 rfl rfl) (num_at h2 _ (rd hs) hb1.1) ?_
    rintro e w ⟨p',rfl,hq2⟩
    refine⟨_,rfl,?_⟩
    refine⟨rfl,fun _=>?_⟩
    exact fin_panic (.err hr.symm rfl hs ⟨p',rfl,hq2⟩)
   | ok up=>
    obtain⟨u,p2⟩:=up
    rw[h2] at hr
    have hb2:=numP_ok h2
    simp only at hr
    by_cases hu:u=k
    ·rw[if_pos hu] at hr
     subst hu
     have hc2:∀{w:World}{p:Nat},Step [b,bl,bk] (RdB b bv p::(bl,blk 24 [.slice none 0 0])::(bk,blk 3 [.int .i64 (u:Nat)])::[]) w0 w→w.heap[bk]?=some (blk 3 [.int .i64 (u:Nat)]):=fun h=>h.has (bk,blk 3 [.int .i64 (u:Nat)]) (by simp)
     refine calls (n:=42) Tryz.func139 rfl rfl rfl ?_
     refine cq<|sr<|wm<|wE rfl (run_call en126 rfl rfl) (num_at h1 _ (rd hs) (by omega)) ?_
     rintro e w ⟨rfl,hq⟩
     refine⟨_,rfl,?_⟩
     replace hs:=hst hs hq
     refine wV (run_bF (run_neq rfl rfl) (by show ¬((5:Nat):Int)≠5;decide))<|wZ<|CW.cond rfl (fun h=>?_) (fun h=>?_)
     ·cases h
     refine ck<|CW.seqM (fun f w=>Step [b,bl,bk] (RdB b bv p2::(bl,blk 24 [.slice none 0 0])::(bk,blk 3 [.int .i64 (u:Nat)])::[]) w0 w∧Holds f [(0,.pointer (some ⟨b,0,none⟩)),(2,.pointer (some ⟨bl,0,none⟩))]) ?_ ?_
     ·skip
      refine cq<|CW.any (A:=fun w=>w.heap[bk]?=some (blk 3 [.int .i64 (u:Nat)])) (C:=fun w=>w.heap[bk]?=some (blk 3 [.int .i64 (u:Nat)])) 1000000 4 mixedP rfl ?_
      replace hs:=hs.drew
      refine aM 0 rfl<|aV 2 rfl (fun w hs=>run_load1 ty3 rfl ((At.of_blk hs).cell (j:=0) rfl))<|AL.one 1 (by kernel_rfl) rfl (hc2 hs) (hc2 hs) ?_
      refine wE rfl (run_call en126 rfl rfl) (num_at h2 _ (rd hs) hb1.1) ?_
      rintro e w ⟨rfl,hq2⟩
      refine⟨_,rfl,?_⟩
      replace hs:=hst hs hq2
      refine wZ<|⟨rfl,?_⟩
      refine aV 3 rfl (fun w hs=>run_bF (run_neq rfl rfl) (by omega))<|AL.end (by kernel_rfl) (hc2 hs) (hc2 hs) ?_
      refine cF rfl<|ck ?_
      exact⟨rfl,hs,rfl,rfl,trivial⟩
     clear hs
     rintro f w ⟨hs,hf⟩
     have ob:=hf.chain
     obtain⟨g,rfl⟩:=ob
     cases h3:numP bs p2 with
     | error er=>
      rw[h3] at hr
      refine sr<|wm<|WL.enterX (run_call en126 rfl rfl) (num_at h3 _ (rd hs) hb2.1) ?_
      rintro e w ⟨p',rfl,hq3⟩
      refine⟨_,rfl,?_⟩
      exact fin_panic (.err hr.symm rfl hs ⟨p',rfl,hq3⟩)
     | ok nq=>
      obtain⟨n,q0⟩:=nq
      rw[h3] at hr
      have hb3:=numP_ok h3
      simp only at hr
      by_cases hn:n=0∨65536<n
      ·rw[if_pos hn] at hr
       by_cases hn0:n=0
       ·subst hn0
        refine sr<|wm<|wE rfl (run_call en126 rfl rfl) (num_at h3 _ (rd hs) hb2.1) ?_
        rintro e w ⟨rfl,hq3⟩
        refine⟨_,rfl,?_⟩
        replace hs:=hst hs hq3
        refine wA<|wZ<|cq<|sr<|wm<|wV (run_bT (run_eql rfl rfl) (by rfl))<|wm<|wz<|wz<|wV (run_pickT rfl)<|wZ<|cT rfl<|cr<|wm ?_
        refine WL.enterX (run_call en127 rfl rfl) (fail_throw (bs:=bs) (er:=81) _ (rd hs) (by decide)) ?_
        rintro e w ⟨p',rfl,hq4⟩
        refine⟨_,rfl,?_⟩
        exact fin_panic (.err hr.symm rfl hs ⟨p',rfl,hq4⟩)
       ·refine sr<|wm<|wE rfl (run_call en126 rfl rfl) (num_at h3 _ (rd hs) hb2.1) ?_
        rintro e w ⟨rfl,hq3⟩
        refine⟨_,rfl,?_⟩
        replace hs:=hst hs hq3
        refine wA<|wZ<|cq<|sr<|wm<|wV (run_bF (run_eql rfl rfl) (by omega))<|wm<|wy<|wm<|wy<|wV (run_bT (run_gtr rfl rfl) (by omega))<|wV (run_pickF rfl)<|wZ<|cT rfl<|cr<|wm ?_
        refine WL.enterX (run_call en127 rfl rfl) (fail_throw (bs:=bs) (er:=81) _ (rd hs) (by decide)) ?_
        rintro e w ⟨p',rfl,hq4⟩
        refine⟨_,rfl,?_⟩
        exact fin_panic (.err hr.symm rfl hs ⟨p',rfl,hq4⟩)
      ·rw[if_neg hn] at hr
       refine sr<|wm<|wE rfl (run_call en126 rfl rfl) (num_at h3 _ (rd hs) hb2.1) ?_
       rintro e w ⟨rfl,hq3⟩
       refine⟨_,rfl,?_⟩
       replace hs:=hst hs hq3
       refine wA<|wZ<|cq<|sr<|wm<|wV (run_bF (run_eql rfl rfl) (by omega))<|wm<|wy<|wm<|wy<|wV (run_bF (run_gtr rfl rfl) (by omega))<|wV (run_pickF rfl)<|wZ ?_
       refine cF rfl<|ck<|sr<|wm<|wm<|wZ<|cB<|CW.loop (fun m f w'=>∃i B q v Lv LD,i≤n∧m=n - i∧q≤bs.length∧B.length=i∧r=preB (B.map (·.2)) (blbsP bs (n - i) q)∧OwnSl 76 1 v B.length (cellsB B) Lv∧BOk LD B∧Step [b,bl,bk] (RdB b bv q::(bl,blk 24 [v])::(bk,blk 3 [.int .i64 (u:Nat)])::(Lv++LD)) w0 w'∧Holds f [(0,.pointer (some ⟨b,0,none⟩)),(2,.pointer (some ⟨bl,0,none⟩)),(27,.int .i64 n),(28,.int .i64 i)]) (m:=n) ?_ ?_
       ·exact⟨0,[],q0,_,[],[],by omega,by omega,hb3.1,rfl,by rw[map_nil,preB_nil];exact hr.symm,.nil _ _,(fun t ht=>by cases ht),hs,rfl,rfl,rfl,rfl,trivial⟩
       ·clear hs hr
        rintro m f w ⟨i,B,q,v,Lv,LD,hi,rfl,hq0,hll,hr,hv,hok,hs,hf⟩
        have ob:=hf.chain
        obtain⟨g,rfl⟩:=ob
        refine sr<|wV (run_lss rfl rfl)<|wZ<|cq<|CW.condP rfl (fun h=>?_) (fun h=>?_)
        ·have hlt:i<n:=by omega
         have ob:∃j,n - i=j+1:=⟨n - i - 1,by omega⟩
         obtain⟨j,hj⟩:=ob
         rw[hj] at hr
         cases h4:bytesP bs q with
         | error er=>
          rw[blbsP_stop _ h4] at hr
          refine ck<|cq<|cB<|sr<|wm<|WL.enterX (run_call en140 rfl rfl) (bytes_at h4 _ (rd hs) hq0) ?_
          rintro e w ⟨p',rfl,hq4⟩
          refine⟨_,rfl,?_⟩
          exact fin_panic (.err hr hv.one hs ⟨p',rfl,hq4⟩)
         | ok xq=>
          obtain⟨x,q'⟩:=xq
          have hb4:=bytesP_ok h4
          by_cases hx:1048576<x.length
          ·rw[blbsP_long _ h4 hx] at hr
           refine ck<|cq<|cB<|sr<|wm<|wE rfl (run_call en140 rfl rfl) (bytes_at h4 _ (rd hs) hq0) ?_
           rintro e w ⟨vx,Lx,rfl,hvx,hq4⟩
           refine⟨_,rfl,?_⟩
           replace hs:=Step.u1 (hst hs hq4)
           have ob:=hvx.form
           obtain⟨xa,xc,rfl⟩:=ob
           refine wA<|wZ<|cq<|sr<|wm<|wV (run_lenSl u76 rfl)<|wV (run_bT (run_gtr rfl rfl) (by omega))<|wZ<|cT rfl<|cr<|wm<|WL.enterX (run_call en127 rfl rfl) (fail_throw (bs:=bs) (er:=2) _ (rd hs) (by decide)) ?_
           rintro e w ⟨p',rfl,hq5⟩
           refine⟨_,rfl,?_⟩
           exact fin_panic (.err hr hv.one hs ⟨p',rfl,hq5⟩)
          ·rw[blbsP_step _ h4 hx] at hr
           refine ck<|cq<|cB<|sr<|wm<|wE rfl (run_call en140 rfl rfl) (bytes_at h4 _ (rd hs) hq0) ?_
           rintro e w ⟨vx,Lx,rfl,hvx,hq4⟩
           refine⟨_,rfl,?_⟩
           replace hs:=Step.u1 (hst hs hq4)
           have ob:=hvx.form
           obtain⟨xa,xc,rfl⟩:=ob
           refine wA<|wZ ?_
           have hok2:BOk (LD++Lx) (B++[(.slice xa x.length xc,x)]):=(hok.mono fun p hp=>mem_append_left _ hp).app fun t ht=>by
            obtain rfl:=mem_singleton.1 ht
            exact⟨⟨Lx,hvx,fun p hp=>mem_append_right _ hp⟩,by show x.length≤_;omega⟩
           refine cq<|sr<|wm<|wV (run_lenSl u76 rfl)<|wV (run_bF (run_gtr rfl rfl) (by omega))<|wZ<|cF rfl<|ck<|cr<|wl ty24 rfl (hs.c1 rfl)<|wm<|WL.buildSlice (cs:=[.slice xa x.length xc]) (vs:=[(0,.slice xa x.length xc)]) u24 ty76 rfl (by decide) rfl (filled_s _ _ rfl) rfl hs (fun b39 w hs=>?_)
           have hsl39:Sl w 1 (.slice (some ⟨b39,0,none⟩) 1 1) 1 [Value.slice xa x.length xc]:=.own1 hs rfl
           replace hs:=Step.u2 hs
           refine WL.append u24 u24 ty76 rfl (by decide) rfl rfl (hv) (hs) (hsl39) (Cells1.of_all rfl) (by omega) rfl (fun v40 Lv40 w hv40 hs=>?_)
           replace hs:=Step.u3 hs
           refine ws1 ty24 rfl rfl (hv40.one) (hs) (fun w hs=>?_)
           refine wZ ?_
           replace hs:=hs.swap
           refine cr<|wV (run_add (c:=((i+1:Nat):Int)) rfl rfl (by omega) (by omega))<|wm<|wZ<|(show _∧_ from⟨rfl,_,?_,i+1,B++[(.slice xa x.length xc,x)],q',_,_,LD++Lx,by omega,rfl,hb4.1,?_,?_,?_,hok2,hs,rfl,rfl,rfl,rfl,trivial⟩)
           ·omega
           ·simp[hll]
           ·rw[hr,map_append,show n - (i+1)=j by omega];rfl
           ·rw[length_append,cellsB_snoc]
            exact hv40
        ·obtain rfl:i=n:=by omega
         refine CW.exit<|fin_end0 rfl ?_
         have e:r=.ok (B.map (·.2),q):=by
          rw[hr,show i - i=0 by omega]
          simp[blbsP,preB]
         exact .ok e rfl hv hok hs
    ·rw[if_neg hu] at hr
     have hc2:∀{w:World}{p:Nat},Step [b,bl,bk] (RdB b bv p::(bl,blk 24 [.slice none 0 0])::(bk,blk 3 [.int .i64 (k:Nat)])::[]) w0 w→w.heap[bk]?=some (blk 3 [.int .i64 (k:Nat)]):=fun h=>h.has (bk,blk 3 [.int .i64 (k:Nat)]) (by simp)
     refine calls (n:=42) Tryz.func139 rfl rfl rfl ?_
     refine cq<|sr<|wm<|wE rfl (run_call en126 rfl rfl) (num_at h1 _ (rd hs) (by omega)) ?_
     rintro e w ⟨rfl,hq⟩
     refine⟨_,rfl,?_⟩
     replace hs:=hst hs hq
     refine wV (run_bF (run_neq rfl rfl) (by show ¬((5:Nat):Int)≠5;decide))<|wZ<|cF rfl<|ck<|cq<|cq<|CW.any (A:=fun w=>w.heap[bk]?=some (blk 3 [.int .i64 (k:Nat)])) (C:=fun w=>w.heap[bk]?=some (blk 3 [.int .i64 (k:Nat)])) 1000000 4 mixedP rfl ?_
     replace hs:=hs.drew
     refine aM 0 rfl<|aV 2 rfl (fun w hs=>run_load1 ty3 rfl ((At.of_blk hs).cell (j:=0) rfl))<|AL.one 1 (by kernel_rfl) rfl (hc2 hs) (hc2 hs) ?_
     refine wE rfl (run_call en126 rfl rfl) (num_at h2 _ (rd hs) hb1.1) ?_
     rintro e w ⟨rfl,hq2⟩
     refine⟨_,rfl,?_⟩
     replace hs:=hst hs hq2
     refine wZ<|⟨rfl,?_⟩
     refine aV 3 rfl (fun w hs=>run_bT (run_neq rfl rfl) (by omega))<|AL.end (by kernel_rfl) (hc2 hs) (hc2 hs) ?_
     refine cT rfl<|cr<|wm<|WL.enterX (run_call en127 rfl rfl) (fail_throw (bs:=bs) (er:=3) _ (rd hs) (by decide)) ?_
     rintro e w ⟨p',rfl,hq3⟩
     refine⟨_,rfl,?_⟩
     exact fin_panic (.err hr.symm rfl hs ⟨p',rfl,hq3⟩)
  ·rw[if_neg ht] at hr
   refine calls (n:=42) Tryz.func139 rfl rfl rfl ?_
   refine cq<|sr<|wm<|wE rfl (run_call en126 rfl rfl) (num_at h1 _ (rd hs) (by omega)) ?_
   rintro e w ⟨rfl,hq⟩
   refine⟨_,rfl,?_⟩
   replace hs:=hst hs hq
   refine wV (run_bT (run_neq rfl rfl) (by show(t:Int)≠5;omega))<|wZ<|cT rfl<|cr<|wm<|WL.enterX (run_call en127 rfl rfl) (fail_throw (bs:=bs) (er:=52) _ (rd hs) (by decide)) ?_
   rintro e w ⟨p',rfl,hq2⟩
   refine⟨_,rfl,?_⟩
   exact fin_panic (.err hr.symm rfl hs ⟨p',rfl,hq2⟩)
def upP (k:Nat) (bs:List UInt8):Int×List (List UInt8):=match pkP k bs with
 | .error e=>(e,[])
 | .ok (l,q)=>if q<bs.length then (13,[]) else (0,l)
theorem upP_ok{k:Nat}{bs:List UInt8} (h:(upP k bs).1=0):(upP k bs).2≠[]∧(upP k bs).2.length≤65536∧((upP k bs).2.map List.length).sum≤bs.length∧∀x∈(upP k bs).2,x.length≤1048576:=by
 cases h1:pkP k bs with
 | error e=>
  have e1:upP k bs=(e,[]):=by unfold upP;rw[h1]
  rw[e1] at h
  exact absurd h (pkP_err h1)
 | ok lq=>
  obtain⟨l,q⟩:=lq
  have e1:upP k bs=if q<bs.length then (13,[]) else (0,l):=by unfold upP;rw[h1]
  by_cases hq:q<bs.length
  ·rw[e1,if_pos hq] at h
   cases h
  ·rw[e1,if_neg hq]
   have h2:=pkP_ok h1
   exact⟨h2.1,h2.2.1,h2.2.2.1,h2.2.2.2.2⟩
def UrR (bl bk k:Nat) (bs:List UInt8) (w0:World) (e:Ending) (w':World):Prop:=∃u B Lv G,e=.returned (.int .i64 (upP k bs).1)∧Cell1 u∧((upP k bs).1=0→OwnSl 76 1 u B.length (cellsB B) Lv∧BOk G B∧B.map (·.2)=(upP k bs).2)∧Step [bl,bk] ((bl,blk 24 [u])::(bk,blk 3 [.int .i64 (k:Nat)])::(Lv++G)) w0 w'
theorem Step.u4{S:List Nat}{p a b c d:Nat×Obj}{X Y:List (Nat×Obj)}{w0 w:World} (h:Step S ((p::a::b::X)++(c::d::Y)) w0 w):Step S (p::c::d::a::b::(X++Y)) w0 w:=
 h.perm (by classical exact perm_iff_count.2 fun x=>by simp only[count_append,count_cons];omega)
theorem Step.u7{S:List Nat}{a b c d e:Nat×Obj}{X:List (Nat×Obj)}{w0 w:World} (h:Step S (b::a::c::d::e::X) w0 w):Step S (a::d::e::b::c::X) w0 w:=
 h.perm (by classical exact perm_iff_count.2 fun x=>by simp only[count_cons];omega)
set_option maxHeartbeats 2000000 in
theorem readB_at{bl bk k:Nat}{bs:List UInt8}{v:Value} (w0:World) (hk:k≤32) (hv:Sl w0 1 v bs.length (u8s bs)) (hout:u8s bs=[]∨Outside v [bl,bk]) (hlen:bs.length≤4194304) (hO:Step [bl,bk] [(bl,blk 24 [.slice none 0 0]),(bk,blk 3 [.int .i64 (k:Nat)])] w0 w0) :
  CP 124 #[v,.func (.func 139) #[] #[.pointer (some ⟨bk,0,none⟩),.pointer (some ⟨bl,0,none⟩)]] w0 (UrR bl bk k bs w0):=by
 have hs:=hO
 refine callsDef (n:=14) Tryz.func124 rfl rfl rfl ?_
 refine sr<|WL.alloc ty36 rfl hs (fun b4 w hs=>?_)
 refine wZ<|sr<|wm<|wE rfl (run_call en83 rfl rfl) (clone_spec (s:=bs) _ (hv.stepK hs hout) (by omega)) ?_
 rintro e w ⟨v',Lv',rfl,hv',hq⟩
 refine⟨_,rfl,?_⟩
 have ob:=hv'.form
 obtain⟨va,vc,rfl⟩:=ob
 replace hs:=(hs.call0 hq).append_comm
 refine wV (run_build rfl (bld_reader _ _ _ _))<|WL.box (cs:=[.slice va bs.length vc,.int .i64 0,.bool false,.int .i64 0]) rfl rfl rfl hs (fun b9 w hs=>?_)
 refine WL.alloc ty228 rfl hs (fun b5 w hs=>?_)
 refine ws1 ty228 rfl rfl (rfl) (hs) (fun w hs=>?_)
 refine wZ ?_
 replace hs:=Step.u7 (show Step [bl,bk] ((b5,blk 228 [.pointer (some ⟨b9,0,none⟩)])::(b9,blk 266 [.slice va bs.length vc,.int .i64 0,.bool false,.int .i64 0])::(b4,blk 36 [.int .i64 0])::(bl,blk 24 [.slice none 0 0])::(bk,blk 3 [.int .i64 (k:Nat)])::Lv') w0 w from hs)
 have hown:Step [b9,bl,bk] [RdB b9 (.slice va bs.length vc) 0,(bl,blk 24 [.slice none 0 0]),(bk,blk 3 [.int .i64 (k:Nat)])] w w:=Step.own (L1:=[_,_,_]) hs
 have hcomm:=Step.append_comm (L1:=[_,_,_,_,_]) hs
 have hsl:=hv'.sl hcomm
 have hvo:Outside (.slice va bs.length vc) [b9,bl,bk]:=hv'.outside fun p hp h=>hcomm.disj p hp (by simp at h⊢;rcases h with h | h | h <;> simp[h])
 refine sr<|wV (run_makeFuncC rfl)<|WL.defer (run_deferV (cap:=[.pointer (some ⟨b5,0,none⟩),.pointer (some ⟨b4,0,none⟩)]) rfl) ?_
 refine wZ ?_
 have hdec:=fun r hr=>blobs1_at (r:=r) hr w hk hsl hvo (hv'.room (by decide)) hlen hown
 cases hr:pkP k bs with
 | error er=>
  have hne:=pkP_err hr
  have he:upP k bs=(er,[]):=by unfold upP;rw[hr]
  refine sr<|wm<|wl ty228 rfl ((hs.tail.tail.tail.c0 rfl))<|WL.enterX (run_callV (cap:=[.pointer (some ⟨bk,0,none⟩),.pointer (some ⟨bl,0,none⟩)]) en139 rfl rfl) (hdec _ hr) ?_
  rintro e w ⟨p,u,Lu,rfl,hu1,hq2⟩
  refine⟨_,rfl,?_⟩
  replace hs:=Step.u4 (X:=Lu) (Step.call (L1:=[RdB b9 _ 0,(bl,_),(bk,_)]) hs hq2)
  refine finD_panic (cap:=[.pointer (some ⟨b5,0,none⟩),.pointer (some ⟨b4,0,none⟩)]) en159 ((rd1_panic hne _ (Step.own (L1:=[_,_,_]) hs)).mono fun e u' w' h=>?_)
  obtain⟨h1,h2,hq3⟩:=h
  refine⟨h1,h2,fun a ha=>?_⟩
  replace hs:=Step.call (L1:=[_,_,_]) hs hq3
  exact⟨_,res_cell1 ha rfl rfl (run_loadVar1 ty36 (hs.c2 rfl)),u,[],Lu,Lv',by rw[he],hu1,fun h=>absurd (by rw[he] at h;exact h) hne,Step.dropL (L1:=[_,_,_]) hs⟩
 | ok lq=>
  obtain⟨l,q⟩:=lq
  refine sr<|wm<|wl ty228 rfl ((hs.tail.tail.tail.c0 rfl))<|wE rfl (run_callV (cap:=[.pointer (some ⟨bk,0,none⟩),.pointer (some ⟨bl,0,none⟩)]) en139 rfl rfl) (hdec _ hr) ?_
  rintro e w ⟨u,B,Lu,LD,rfl,hB,hu,hD,hq2⟩
  refine⟨_,rfl,?_⟩
  refine wZ ?_
  replace hs:=Step.front [_,_] (Step.u4 (X:=Lu++LD) (Step.call (L1:=[RdB b9 _ 0,(bl,_),(bk,_)]) hs hq2))
  refine sr<|ws1 ty36 rfl rfl (rfl) (hs) (fun w hs=>?_)
  refine wZ ?_
  replace hs:=hs.rot3.rot3
  refine CW.ret ?_
  refine finD_ret (cap:=[.pointer (some ⟨b5,0,none⟩),.pointer (some ⟨b4,0,none⟩)]) en159 ((rd1_ret _ (Step.own (L1:=[_,_,_]) hs)).mono fun e u' w' h=>?_)
  obtain⟨h1,h2,hq3⟩:=h
  refine⟨h1,h2,fun a ha=>?_⟩
  replace hs:=Step.call (L1:=[_,_,_]) hs hq3
  refine⟨_,res_cell1 ha rfl rfl (run_loadVar1 ty36 (hs.c2 rfl)),u,B,Lu,LD++Lv',?_,hu.one,?_,by rw[←append_assoc];exact Step.dropL (L1:=[_,_,_]) hs⟩
  ·unfold upP
   rw[hr]
   by_cases hlt:q<bs.length <;> simp[hlt]
  ·intro h0
   refine⟨hu,hD.mono fun p hp=>mem_append_left _ hp,?_⟩
   unfold upP at h0⊢
   rw[hr] at h0⊢
   simp only at h0⊢
   split at h0
   ·cases h0
   ·rename_i hlt;rw[if_neg hlt];exact hB
theorem blobs_spec{k:Nat}{bs:List UInt8}{v:Value} (w0:World) (hk:k≤32) (hv:Sl w0 1 v bs.length (u8s bs)) (hlen:bs.length≤4194304) :
  CP 96 #[.int .i64 (k:Nat),v] w0 fun e w'=>∃u B Lv G,e=.returned (.tuple #[u,.int .i64 (upP k bs).1])∧((upP k bs).1=0→OwnSl 76 1 u B.length (cellsB B) Lv∧BOk G B∧B.map (·.2)=(upP k bs).2)∧Step [] (Lv++G) w0 w':=by
 have hs:Step [] [] w0 w0:=Step.refl w0
 have ob:=hv.form
 obtain⟨a,c,rfl⟩:=ob
 refine calls (n:=11) Tryz.func96 rfl rfl rfl ?_
 refine sr<|WL.box rfl (rfl) rfl hs (fun b2 w hs=>?_)
 refine WL.alloc ty24 rfl hs (fun b4 w hs=>?_)
 refine wA<|wZ<|sr<|wm<|wV (run_makeFuncC rfl)<|wE rfl (run_call en124 rfl rfl) (readB_at _ hk (hv.step0 hs.clear) (Outside.newer hv hs (fun k hk=>by simp at hk⊢;exact hk)) hlen (Step.own (L1:=[_,_]) hs)) ?_
 rintro e w ⟨u,B,Lv,G,rfl,hu1,hok,hq⟩
 refine⟨_,rfl,?_⟩
 replace hs:=Step.call (L1:=[_,_]) hs hq
 refine wA<|wZ<|sr<|wl ty24 rfl (hs.c0 rfl)<|wm<|ws1 ty24 rfl rfl (hu1) (hs) (fun w hs=>?_)
 refine wA<|wZ<|CW.ret ?_
 refine fin_cellTmp rfl rfl (run_loadVar1 ty24 (hs.c0 rfl)) ?_
 exact⟨u,B,Lv,G,rfl,hok,Step.tail (Step.tail (show Step [] (_::_::(Lv++G)) w0 w by simpa using hs))⟩
end Go.Gx
namespace Go.Gx
open Go.Proofs List
attribute [local irreducible] shaL cutD frontL
theorem findX_ins' {b:Blb}{X:List Blb} (h:SortedX X){d:List UInt8} (hd:d≠b.d):findX d (insX b X)=findX d X:=by
 have hp:=insX_perm b h
 rw[findX_perm hp ((hp.map _).nodup_iff.1 (insX_sorted b h).nodup) d,findX,List.find?_cons]
 have h1:decide (b.d=d)=false:=by simpa using fun e=>hd e.symm
 rw[h1]
 exact findX_del hd X
def digsK (k:Nat) (l:List (List UInt8)):List (List UInt8):=l.map fun x=>frontL x k
theorem digsK_app (k:Nat) (l:List (List UInt8)) (x:List UInt8):digsK k (l++[x])=digsK k l++[frontL x k]:=by simp[digsK]
theorem digsK_len (k:Nat) (l:List (List UInt8)):(digsK k l).length=l.length:=by simp[digsK]
def putAll (s:AS) (l:List (List UInt8)):AS:=l.foldl (fun s x=>(s.put x).2.2) s
theorem putAll_app (s:AS) (l:List (List UInt8)) (x:List UInt8):putAll s (l++[x])=((putAll s l).put x).2.2:=by simp[putAll,foldl_append]
structure PutOk (k:Nat) (l:List (List UInt8)) (s:AS):Prop where
 ok:s.Ok
 hk:s.k=k
 cap:s.cap=67108864
 few:s.Few l.length
 used:usedX s.X=(l.map fun x=>x.length+32).sum
 has:∀d,s.has d=decide (d∈digsK k l)
 get:∀x∈l,s.get (frontL x k)=(x,0)
 num:s.X.length=l.length
theorem PutOk.nil{k:Nat} (h1:1≤k) (h2:k≤32):PutOk k [] (newS k 67108864):=
 ⟨⟨h1,h2,Nat.le_refl _,List.Pairwise.nil,(fun b hb=>by cases hb),Nat.zero_le _⟩,rfl,rfl,⟨Nat.zero_le _,Nat.zero_le _,Nat.zero_le _⟩,rfl,(fun d=>rfl),(fun x hx=>by cases hx),rfl⟩
theorem PutOk.add{k:Nat}{l:List (List UInt8)}{s:AS} (h:PutOk k l s){x:List UInt8} (hn:frontL x k∉digsK k l) (hx:x.length≤1048576) (hu:((l++[x]).map fun x=>x.length+32).sum≤67108864) :
  (s.put x).1=frontL x k∧(s.put x).2.1=0∧PutOk k (l++[x]) (s.put x).2.2:=by
 have hk:=h.hk
 have h0:findX (frontL x k) s.X=none:=by
  have:=h.has (frontL x k)
  rw[decide_eq_false hn] at this
  unfold AS.has at this
  cases hf:findX (frontL x k) s.X with
  | none=>rfl
  | some b=>rw[hf] at this;cases this
 have hus:=used_ins h.ok.sorted ⟨frontL x k,x,s.last+1⟩
 simp only[h0] at hus
 have hsum:((l++[x]).map fun x=>x.length+32).sum=(l.map fun x=>x.length+32).sum+(x.length+32):=by simp
 have hlay:({ s with puts:=s.puts+1 }:AS).lay (frontL x k) x=some ⟨s.k,s.cap,s.last+1,s.gets,s.puts+1,insX ⟨frontL x k,x,s.last+1⟩ s.X⟩:=by
  unfold AS.lay
  rw[if_pos]
  show usedX (insX ⟨frontL x k,x,s.last+1⟩ s.X)≤s.cap
  have:=h.cap
  have:=h.used
  omega
 have hp:=put_new hx (by rw[hk]) h0 hlay
 have hok:=h.ok.put x
 rw[hp] at hok⊢
 have hle:=h.few
 have h32:=frontL_len (x:=x) (k:=k) (by have:=h.ok.k2;omega)
 refine⟨rfl,rfl,hok,hk,h.cap,⟨?_,?_,?_⟩,?_,fun d=>?_,fun y hy=>?_,?_⟩
 ·have:=hle.last
  simp only[length_append,length_singleton];omega
 ·have:=hle.gets
  simp only[length_append,length_singleton];omega
 ·have:=hle.puts
  simp only[length_append,length_singleton];omega
 ·have:=h.used
  show usedX (insX ⟨frontL x k,x,s.last+1⟩ s.X)=_
  rw[hsum];omega
 ·rw[digsK_app]
  show(findX d (insX ⟨frontL x k,x,s.last+1⟩ s.X)).isSome=_
  by_cases hd:d=frontL x k
  ·subst hd
   rw[findX_ins (b:=⟨frontL x k,x,s.last+1⟩) h.ok.sorted]
   simp
  ·rw[findX_ins' (b:=⟨frontL x k,x,s.last+1⟩) h.ok.sorted hd]
   have:=h.has d
   unfold AS.has at this
   rw[this]
   simp[hd]
 ·rcases mem_append.1 hy with hy | hy
  ·have hne:frontL y k≠frontL x k:=fun e=>hn (e▸mem_map_of_mem hy)
   have h1:=h.get y hy
   unfold AS.get at h1⊢
   show(match findX (frontL y k) (insX ⟨frontL x k,x,s.last+1⟩ s.X) with | none=>([],41) | some b=>if frontL b.x s.k=frontL y k then (b.x,0) else ([],42))=_
   rw[findX_ins' (b:=⟨frontL x k,x,s.last+1⟩) h.ok.sorted hne]
   exact h1
  ·obtain rfl:=mem_singleton.1 hy
   unfold AS.get
   show(match findX (frontL y k) (insX ⟨frontL y k,y,s.last+1⟩ s.X) with | none=>([],41) | some b=>if frontL b.x s.k=frontL y k then (b.x,0) else ([],42))=_
   rw[findX_ins (b:=⟨frontL y k,y,s.last+1⟩) h.ok.sorted]
   simp only[hk,if_true]
 ·show(insX ⟨frontL x k,x,s.last+1⟩ s.X).length=_
  rw[(insX_perm _ h.ok.sorted).length_eq,delX_none h0,length_cons,h.num,length_append]
  rfl
theorem sum_take{l:List (List UInt8)} (i:Nat):((l.take i).map fun x=>x.length+32).sum≤(l.map List.length).sum+32*l.length:=by
 have h1:∀l:List (List UInt8),(l.map fun x=>x.length+32).sum=(l.map List.length).sum+32*l.length:=fun l=>by
  induction l with
  | nil=>rfl
  | cons x l ih=>rw[map_cons,sum_cons,ih,map_cons,sum_cons,length_cons];omega
 have h2:∀(l:List (List UInt8)) (i:Nat),((l.take i).map fun x=>x.length+32).sum≤(l.map fun x=>x.length+32).sum:=fun l=>by
  induction l with
  | nil=>intro i;simp
  | cons x l ih=>
   intro i
   cases i with
   | zero=>simp
   | succ i=>rw[take_succ_cons,map_cons,sum_cons,map_cons,sum_cons];have:=ih i;omega
 rw[←h1]
 exact h2 l i
theorem nodup_snoc{l:List (List UInt8)}{d:List UInt8}:(l++[d]).Nodup↔l.Nodup∧d∉l:=by
 rw[nodup_append]
 constructor
 ·rintro⟨h1,_,h3⟩
  exact⟨h1,fun h=>h3 d h d (by simp) rfl⟩
 ·rintro⟨h1,h2⟩
  exact⟨h1,nodup_cons.2 ⟨by simp,nodup_nil⟩,fun a ha b hb e=>by
   rw[mem_singleton] at hb
   exact h2 (hb▸e▸ha)⟩
theorem eqD_spec{u v:Value}{l m:List (List UInt8)}{w0:World} (hu:Dgs w0 u l) (hv:Dgs w0 v m):CP 141 #[u,v] w0 (Ret0 (.bool (decide (l=m))) w0):=by
 have hs:Step [] [] w0 w0:=Step.refl w0
 have ob:=hu.form
 obtain⟨a,c,rfl⟩:=ob
 have ob:=hv.form
 obtain⟨a2,c2,rfl⟩:=ob
 have hsm:=hu.small
 have hsm2:=hv.small
 have ob:∃r,decide (l=m)=r:=⟨_,rfl⟩
 obtain⟨r,hr⟩:=ob
 rw[hr]
 by_cases hlen:l.length=m.length
 ·refine calls (n:=26) Tryz.func141 rfl rfl rfl ?_
  refine sr<|wA<|wZ<|cq<|sr<|wm<|wV (run_lenSl u35 rfl)<|wm<|wV (run_lenSl u35 rfl)<|wV (run_bF (run_neq rfl rfl) (by omega))<|wZ<|CW.cond rfl (fun h=>?_) (fun h=>?_)
  ·cases h
  refine ck<|cq<|sr<|wm<|wV (run_lenSl u35 rfl)<|wm<|wZ<|cB<|CW.loop (fun z f w'=>∃i,i≤l.length∧z=l.length - i∧l.take i=m.take i∧Step [] [] w0 w'∧Holds f [(0,.slice a l.length c),(1,.slice a2 m.length c2),(12,.int .i64 (l.length:Nat)),(13,.int .i64 (i:Nat))]) (m:=l.length) ?_ ?_
  ·exact⟨0,Nat.zero_le _,rfl,by simp,hs,rfl,rfl,rfl,rfl,trivial⟩
  ·rintro z f w ⟨i,hi,rfl,heq,hs,hf⟩
   have ob:=hf.chain
   obtain⟨g,rfl⟩:=ob
   by_cases hlt:i<l.length
   ·have ob:∃e,l[i]?=some e:=⟨_,getElem?_eq_getElem hlt⟩
    obtain⟨e,he⟩:=ob
    have ob:∃e,m[i]?=some e:=⟨_,getElem?_eq_getElem (by omega)⟩
    obtain⟨e2,he2⟩:=ob
    have ob:=hu.at he
    obtain⟨b,off,c',hb,hat⟩:=ob
    cases hb
    have ob:=hv.at he2
    obtain⟨b2,off2,c2',hb2,hat2⟩:=ob
    cases hb2
    have hel:=hu.len e (mem_of_getElem? he)
    have hel2:(u8s e).length=32:=by rw[u8s,length_map,hel]
    have hem:=hv.len e2 (mem_of_getElem? he2)
    have hem2:(u8s e2).length=32:=by rw[u8s,length_map,hem]
    refine sr<|wV (run_bT (run_lss rfl rfl) (by omega))<|wZ<|cq<|CW.cond rfl (fun h=>?_) (fun h=>?_)
    ·refine ck<|cq<|cB<|sr<|wm<|wA<|wZ ?_
     by_cases hed:e=e2
     ·refine cq<|CW.quiet mixedP (by kernel_rfl) hs ?_
      refine qm<|qm<|qV (fun w hs=>run_ixSlN u35 ty44 rfl rfl (by omega))<|qV (fun w hs=>run_loadN ty44 rfl hel2 (hat.step hs.clear (by simp)))<|qm<|qm<|qV (fun w hs=>run_ixSlN u35 ty44 rfl rfl (by omega))<|qV (fun w hs=>run_loadN ty44 rfl hem2 (hat2.step hs.clear (by simp)))<|qV (fun w hs=>run_bF (run_neDig hel hem rfl rfl) (fun h=>h hed))<|QL.nil (fun w hs=>?_)
      refine CW.cond rfl (fun h=>?_) (fun h=>?_)
      ·cases h
      refine ck<|cr<|wV (run_add (c:=((i+1:Nat):Int)) rfl rfl (by omega) (by omega))<|wm<|wZ<|(show _∧_ from⟨rfl,_,?_,i+1,hlt,rfl,?_,hs,rfl,rfl,rfl,rfl,trivial⟩)
      ·omega
      ·rw[take_add_one,take_add_one,he,he2,heq,hed]
     ·refine cq<|CW.quiet mixedP (by kernel_rfl) hs ?_
      refine qm<|qm<|qV (fun w hs=>run_ixSlN u35 ty44 rfl rfl (by omega))<|qV (fun w hs=>run_loadN ty44 rfl hel2 (hat.step hs.clear (by simp)))<|qm<|qm<|qV (fun w hs=>run_ixSlN u35 ty44 rfl rfl (by omega))<|qV (fun w hs=>run_loadN ty44 rfl hem2 (hat2.step hs.clear (by simp)))<|qV (fun w hs=>run_bT (run_neDig hel hem rfl rfl) hed)<|QL.nil (fun w hs=>?_)
      refine CW.cond rfl (fun h=>?_) (fun h=>?_)
      ·refine sr<|wA<|wZ<|CW.ret ?_
       refine fin_ret1 rfl ?_
       exact⟨congrArg (fun b=>Ending.returned (.bool b)) (by rw[←hr];symm;rw[decide_eq_false_iff_not];intro h;rw[h,he2] at he;exact hed (Option.some.inj he).symm),hs⟩
      ·cases h
    ·cases h
   ·obtain rfl:i=l.length:=by omega
    have hlm:l=m:=by
     rw[take_length,hlen,take_length] at heq;exact heq
    refine sr<|wV (run_bF (run_lss rfl rfl) (by omega))<|wZ<|cq<|CW.cond rfl (fun h=>?_) (fun h=>?_)
    ·cases h
    refine CW.exit<|sr<|wA<|wZ<|CW.ret ?_
    refine fin_ret1 rfl ?_
    exact⟨congrArg (fun b=>Ending.returned (.bool b)) (by rw[←hr];simp[hlm]),hs⟩
 ·refine calls (n:=26) Tryz.func141 rfl rfl rfl ?_
  refine sr<|wA<|wZ<|cq<|sr<|wm<|wV (run_lenSl u35 rfl)<|wm<|wV (run_lenSl u35 rfl)<|wV (run_bT (run_neq rfl rfl) (by omega))<|wZ<|CW.cond rfl (fun h=>?_) (fun h=>?_)
  ·refine sr<|wA<|wZ<|CW.ret ?_
   refine fin_ret1 rfl ?_
   exact⟨congrArg (fun b=>Ending.returned (.bool b)) (by rw[←hr];symm;rw[decide_eq_false_iff_not];intro h;exact hlen (congrArg _ h)),hs⟩
  ·cases h
theorem eqB_spec{u v:Value}{x:List UInt8}{w0:World} (hu:Sl w0 1 u x.length (u8s x)) (hv:Sl w0 1 v x.length (u8s x)):CP 92 #[u,v] w0 (Ret0 (.bool true) w0):=by
 have hs:Step [] [] w0 w0:=Step.refl w0
 have ob:=hu.form
 obtain⟨a,c,rfl⟩:=ob
 have ob:=hv.form
 obtain⟨a2,c2,rfl⟩:=ob
 refine calls (n:=10) Tryz.func92 rfl rfl rfl ?_
 refine sr<|wA<|wZ<|sr<|wm<|wV (run_toString u76 u9 u5 rfl (hu.step0 hs))<|wm<|wV (run_toString u76 u9 u5 rfl (hv.step0 hs))<|wV (run_bT (run_strEq rfl rfl) (by rfl))<|wA<|wZ<|CW.ret ?_
 refine fin_ret1 rfl ?_
 exact⟨rfl,hs⟩
end Go.Gx
