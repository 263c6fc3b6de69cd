/- The document's tree.Build, safely: entries. The document's tree.Build, safely. Chapter 8's World: both Stores stand for one plain Store; put. A World's root. A Setup as a value; the first of made's loops: trees. made: both Stores stand for one plain Store, whatever the Setup. What chapter 8's law kn -/
import Derived.Test.YtplmnkogkfhaiaaGreatH9
import Derived.Test.YtplmnkogkfhaiaaGreatH1
set_option linter.unusedVariables false
set_option linter.unusedSimpArgs false
set_option maxRecDepth 100000
namespace Go.Gx
open Go.Proofs Go.RowKit
attribute [local irreducible] shaL cutD frontL
theorem enc_len{l:List Ent} (ho:Oks l) (hc:checkE l=0):(encB l).length≤1000000:=by
 have hlen:l.length≤1024:=by
  unfold checkE at hc
  split at hc
  ·cases hc
  ·omega
 have herr:errE [] l=0:=by
  unfold checkE at hc
  rwa [if_neg (by omega)] at hc
 have h1:=encB_len ho (fun x hx=>isName_len (errE_ok l [] herr x hx).2)
 have h2:=formB_len 1
 have h3:=formB_len l.length
 simp only[encB,List.length_append]
 omega
theorem OwnSl.slW{E:TypeId}{sz k:Nat}{v:Value}{xs:List Value}{Lv:List (Nat×Obj)}{w:World} (h:OwnSl E sz v k xs Lv) (hw:∀p∈Lv,w.heap[p.1]?=some p.2):Sl w sz v k xs:=by
 obtain⟨h1,⟨rfl,h0,rfl⟩ | ⟨b,cap,more,rfl,rfl,h3⟩⟩:=h
 ·have:xs=[]:=List.eq_nil_of_length_eq_zero (by rw[h1,h0];simp)
  subst this;subst h0;exact Sl.nil _ _ _
 ·exact Sl.mk h1 (At.of_blk (hw (b,blk E (xs++more)) (by simp))).left
theorem OwnSl.roomW{E:TypeId}{sz k:Nat}{v:Value}{xs:List Value}{Lv:List (Nat×Obj)} (h:OwnSl E sz v k xs Lv) (h0:0<sz):Room v:=by
 obtain⟨h1,⟨rfl,h0,rfl⟩ | ⟨b,cap,more,rfl,rfl,h3⟩⟩:=h
 ·exact Nat.zero_le _
 ·show k≤cap
  rw[List.length_append,h1] at h3
  exact Nat.le_of_mul_le_mul_right (by omega) h0
set_option maxHeartbeats 4000000 in
theorem digest6_spec{v:Value}{x:List UInt8}{k:Nat} (w0:World) (hv:Sl w0 1 v x.length (u8s x)) (hsz:x.length<1099511627776) (hk1:1≤k) (hk:k≤32) :
  Calls Tryz.prog 110 #[.int .i64 (k:Nat),v] w0 (Ret0 (.agg (u8s (frontL x k)).toArray) w0):=by
 have hs:Step [] [] w0 w0:=Step.refl w0
 have hc:(cutD (shaL x) k).length=32:=by have h:=frontL_len (x:=x) hk;unfold frontL at h;exact h
 have e:frontL x k=cutD (shaL x) k:=by unfold frontL;rfl
 rw[e]
 have ob:∃d,cutD (shaL x) k=d:=⟨_,rfl⟩
 obtain⟨d,hd⟩:=ob
 have hcut:=fun w=>refCut_ok (d:=shaL x) (k:=k) (shaL_len x) hk1 hk w
 simp only[hd] at hcut
 rw[hd] at hc⊢
 have hdl:(u8s d).length=32:=by rw[u8s,List.length_map,hc]
 have ob:∃sh,shaL x=sh:=⟨_,rfl⟩
 obtain⟨sh,hsh⟩:=ob
 have hof:=fun {w} (h:Step [] [] w0 w)=>refOf_spec (x:=x) w (hv.step0 h) hsz
 simp only[hsh] at hof hcut
 refine calls (n:=15) Tryz.func110 rfl rfl rfl ?_
 refine sr<|WL.alloc ty44 rfl hs (fun b4 w hs=>?_)
 refine wZ<|sr<|wm<|wE rfl (run_call en156 rfl rfl) (hof hs.clear) ?_
 rintro e w ⟨rfl,hq⟩
 refine⟨_,rfl,?_⟩
 replace hs:=hs.callE hq
 refine wm<|wE rfl (run_call en155 rfl rfl) (hcut _) ?_
 rintro e w ⟨rfl,hq⟩
 refine⟨_,rfl,?_⟩
 replace hs:=hs.callE hq
 refine wm<|wx rfl rfl<|wx rfl rfl<|WL.alloc ty201 rfl hs (fun b5 w hs=>?_)
 refine WL.storeAll ty201 rfl rfl ((hdl)) ((Cells1.u8s _)) hs (by rfl) (fun w hs=>?_)
 refine wA<|wZ<|sr<|wV (run_loadN ty201 rfl hdl hs.a0)<|WL.storeAll_1 ty44 rfl rfl ((hdl)) ((Cells1.u8s _)) hs (by rfl) (fun w hs=>?_)
 refine wZ<|CW.ret ?_
 refine fin_cell1 rfl rfl (run_loadVarN ty44 (by assumption) hs.a1) ?_
 exact⟨rfl,hs.clear⟩
theorem encS_spec{v:Value}{l:List Ent} (w0:World) (hl:Es w0 v l) (hcap:Room v):Calls Tryz.prog 57 #[v] w0 fun e w'=>∃v' y Lv er,e=.returned (.tuple #[v',.int .i64 er])∧(er=0→y=encB l∧checkE l=0)∧(er≠0→checkE l≠0)∧OwnSl 5 1 v' y.length (u8s y) Lv∧y.length≤1048576∧Step [] Lv w0 w':=by
 by_cases hc:checkE l=0
 ·refine(encodeR_ok w0 hl hcap hc).mono ?_
  rintro e w' ⟨v',Lv,he,hv,hs⟩
  exact⟨v',_,Lv,0,he,fun _=>⟨rfl,hc⟩,fun h=>absurd rfl h,hv,by have:=enc_len hl.2.1 hc;omega,hs⟩
 ·refine(encodeR_bad w0 hl hcap hc).mono ?_
  rintro e w' ⟨he,hs⟩
  exact⟨_,[],[],checkE l,he,fun h=>absurd h hc,fun _=>hc,OwnSl.nil _ _,by simp,hs⟩
theorem Its.step0{L:List (Nat×Obj)}{w w':World}{v:Value}{l:List It} (h:Its w v l) (hs:Step [] L w w'):Its w' v l:=⟨h.sl.step0 hs,fun x hx=>⟨(h.ok x hx).hb.step0 hs,(h.ok x hx).lp,(h.ok x hx).lb⟩,h.len⟩
abbrev BL:=List (Value×List UInt8)
def cellsB (B:BL):List Value:=B.map (·.1)
theorem cellsB_snoc (B:BL) (t:Value×List UInt8):cellsB (B++[t])=cellsB B++[t.1]:=by simp[cellsB]
theorem cellsB_app (B C:BL):cellsB (B++C)=cellsB B++cellsB C:=by simp[cellsB]
def BOk (D:List (Nat×Obj)) (B:BL):Prop:=∀t∈B,Held D t.1 t.2∧t.2.length≤1048576
theorem BOk.mono {D D':List (Nat×Obj)}{B:BL} (h:BOk D B) (hD:∀p∈D,p∈D'):BOk D' B:=fun t ht=>⟨(h t ht).1.mono hD,(h t ht).2⟩
theorem BOk.app{D:List (Nat×Obj)}{B C:BL} (h:BOk D B) (h2:BOk D C):BOk D (B++C):=fun t ht=>(List.mem_append.1 ht).elim (h t) (h2 t)
theorem BOk.c1{D:List (Nat×Obj)}{B:BL} (h:BOk D B):Cells1 (cellsB B):=fun v hv=>by
 have ob:=List.mem_map.1 hv
 obtain⟨t,ht,rfl⟩:=ob
 have ob:=(h t ht).1.form
 obtain⟨a,c,he⟩:=ob
 show t.1.oneCell'=true
 rw[he];rfl
theorem bld_ent (n:List UInt8) (k:Int) (w:World):(Instr.build 115 #[(0,str n),(1,.int .i64 k)]).run Tryz.prog w=.ok (.agg (Ent.cells ⟨n,k,List.replicate 32 0⟩).toArray) w:=by kernel_rfl
theorem splice_ent{n:List UInt8}{k:Int}{z d:List UInt8} (hz:z.length=32) (hd:d.length=32):splice (Ent.cells ⟨n,k,z⟩) (0+2) (u8s d)=Ent.cells ⟨n,k,d⟩:=by
 have h1:(u8s d).length=32:=by rw[u8s,List.length_map,hd]
 have h2:(u8s z).length=32:=by rw[u8s,List.length_map,hz]
 have h3:(u8s z).drop 32=[]:=List.drop_of_length_le (by omega)
 rw[splice,h1]
 show [str n,Value.int .i64 k]++u8s d++(u8s z).drop 32=_
 rw[h3,List.append_nil];rfl
section
variable{S:List Nat}{A B C D E F G X Y:List (Nat×Obj)}{a b c:Nat×Obj}{w w':World}
theorem Step.q1 (h:Step S (a::(A++X)) w w'):Step S (a::X) w w':=Step.dropL (L1:=A) (h.perm (by classical exact List.perm_iff_count.2 fun x=>by simp only[List.count_append,List.count_cons];omega))
theorem Step.q2 (h:Step S (a::(A++(b::(B++(C++D))))) w w'):Step S (C++(a::(A++(b::(B++D))))) w w':=h.perm (by classical exact List.perm_iff_count.2 fun x=>by simp only[List.count_append,List.count_cons];omega)
theorem Step.q3 (h:Step S (C++(a::(A++(b::(B++D))))) w w'):Step S (b::(B++(C++(A++D)))) w w':=Step.tail (p:=a) (h.perm (by classical exact List.perm_iff_count.2 fun x=>by simp only[List.count_append,List.count_cons];omega))
theorem Step.q4 (h:Step S ((A++(B++C))++(a::X)) w w'):Step S (a::(A++(B++(C++X)))) w w':=h.perm (by classical exact List.perm_iff_count.2 fun x=>by simp only[List.count_append,List.count_cons];omega)
theorem Step.q5 (h:Step S (A++(a::X)) w w'):Step S (a::(A++X)) w w':=h.perm List.perm_middle
theorem Step.q6 (h:Step S (a::(A++(B++(C++(D++(E++(F++G))))))) w w'):Step S (F++(a::(A++(B++(C++(D++(E++G))))))) w w':=h.perm (by classical exact List.perm_iff_count.2 fun x=>by simp only[List.count_append,List.count_cons];omega)
theorem Step.q7 (h:Step S (F++(b::(a::(A++(B++(C++(D++(E++G)))))))) w w'):Step S (a::(E++(F++(A++(D++G))))) w w':=Step.dropL (L1:=b::(B++C)) (h.perm (by classical exact List.perm_iff_count.2 fun x=>by simp only[List.count_append,List.count_cons];omega))
end
def EntsPost (l:List It) (i:Nat) (w0:World) (e:Ending) (w':World):Prop:=
 ∃vE LE El vB LB B D j,e=.returned (.tuple #[vE,vB,.int .i64 (j:Nat)])∧OwnSl 115 34 vE El.length (rows El) LE∧Oks El∧El.length≤j - i∧OwnSl 76 1 vB B.length (cellsB B) LB∧BOk D B∧B.length≤j - i∧i≤j∧j≤l.length∧Step [] (LE++(LB++D)) w0 w'
set_option maxHeartbeats 16000000 in
theorem entries_spec{k:Nat} (hk1:1≤k) (hk:k≤32){av:Option Addr}{cv:Nat}{l:List It} (hlen:l.length<65536) (hroom:l.length≤cv) (hgood:∀x∈l,GoodIt x):∀(n i:Nat),l.length - i≤n→i≤l.length→∀(p:List UInt8),p.length≤4096→∀(w0:World),Its w0 (.slice av l.length cv) l→
  Calls Tryz.prog 109 #[.int .i64 (k:Nat),.slice av l.length cv,str p,.int .i64 (i:Nat)] w0 (EntsPost l i w0):=by
 intro n
 induction n with
 | zero=>
  intro i hni hil p hpl w0 hl
  obtain rfl:i=l.length:=by omega
  have hs:Step [] [] w0 w0:=Step.refl w0
  refine calls (n:=114) Tryz.func109 rfl rfl rfl ?_
  refine sr<|wA<|wA<|wA<|wZ<|sr<|wA<|wZ<|sr<|wA<|wZ ?_
  refine cq<|cB<|CW.loop (fun z f w'=>z=0∧Step [] [] w0 w'∧Holds f [(1,.slice av l.length cv),(2,str p),(3,.int .i64 (l.length:Nat)),(11,.slice none 0 0),(12,.slice none 0 0)]) (m:=0) ?_ ?_
  ·exact⟨rfl,hs,rfl,rfl,rfl,rfl,rfl,trivial⟩
  clear hs
  rintro z f w ⟨rfl,hs,hf⟩
  have ob:=hf.chain
  obtain⟨g,rfl⟩:=ob
  refine cq<|sr<|wm<|wm<|wV (run_lenSl u65 rfl)<|wV (run_bF (run_lss rfl rfl) (by omega))<|wm<|wz<|wz<|wz<|wz<|wz<|wz<|wz<|wz<|wz<|wz<|wz<|wV (run_pickF rfl)<|wZ ?_
  refine CW.cond rfl (fun h=>?_) (fun h=>?_)
  ·cases h
  refine CW.exit<|sr<|wm<|wm<|wm<|wA<|wA<|wA<|wZ<|CW.ret ?_
  refine fin_ret3 rfl ?_
  exact⟨_,[],[],_,[],[],[],l.length,rfl,OwnSl.nil _ _,Oks.nil,by simp,OwnSl.nil _ _,(fun t ht=>by cases ht),by simp,Nat.le_refl _,Nat.le_refl _,hs⟩
 | succ n ih=>
  intro i0 hni hil p hpl w0 hl
  have hs:Step [] [] w0 w0:=Step.refl w0
  refine calls (n:=114) Tryz.func109 rfl rfl rfl ?_
  refine sr<|wA<|wA<|wA<|wZ<|sr<|wA<|wZ<|sr<|wA<|wZ ?_
  refine cq<|cB<|CW.loop (fun z f w'=>∃i vE LE El vB LB B D,i0≤i∧i≤l.length∧z=l.length - i∧OwnSl 115 34 vE El.length (rows El) LE∧Oks El∧El.length≤i - i0∧OwnSl 76 1 vB B.length (cellsB B) LB∧BOk D B∧B.length≤i - i0∧Step [] (LE++(LB++D)) w0 w'∧Holds f [(0,.int .i64 (k:Nat)),(1,.slice av l.length cv),(2,str p),(3,.int .i64 (i:Nat)),(11,vE),(12,vB)]) (m:=l.length - i0) ?_ ?_
  ·exact⟨i0,_,[],[],_,[],[],[],Nat.le_refl _,hil,rfl,OwnSl.nil _ _,Oks.nil,by simp,OwnSl.nil _ _,(fun t ht=>by cases ht),by simp,hs,rfl,rfl,rfl,rfl,rfl,rfl,trivial⟩
  clear hs
  rintro z f w ⟨i,vE,LE,El,vB,LB,B,D,hi0,hil2,rfl,hE,hEo,hEl,hB,hBo,hBl,hs,hf⟩
  by_cases hlt:i<l.length
  ·have ob:∃x,l[i]?=some x:=⟨_,List.getElem?_eq_getElem hlt⟩
   obtain⟨x,hx⟩:=ob
   have hxm:=List.mem_of_getElem? hx
   have hxo:=hl.ok x hxm
   have ob:=hgood x hxm
   obtain⟨hcl,hp0,hxl⟩:=ob
   have hxpl:=clean_len hcl
   have ob:=hl.at hx
   obtain⟨bl,ol,cl,hc0,hat0⟩:=ob
   cases hc0
   have ob:=hxo.hb.form
   obtain⟨ax,cx,hvx⟩:=ob
   have hrow:∀{X:List (Nat×Obj)}{w:World},Step [] X w0 w→At w bl (ol+i*3) (itC x.p x.d (.slice ax x.x.length cx)):=fun h=>by
    have h1:=hat0.step h.clear (by simp)
    rw[hvx] at h1;exact h1
   have ob:=hf.chain
   obtain⟨g,rfl⟩:=ob
   have hun:=fun w=>refUnder_spec (s:=p) (t:=x.p) w (by omega) (by omega)
   have ob:∃b,underL (partsL p) (partsL x.p)=b:=⟨_,rfl⟩
   obtain⟨ub,hub⟩:=ob
   simp only[hub] at hun
   have hpn:partsL x.p≠[]:=fun h=>hp0 (partsL_nil h)
   have hpt:=fun w=>refParts_spec (s:=x.p) w (by omega)
   have hpnm:=(clean_named hcl).1
   have hpnl:=(clean_named hcl).2
   have ob:∃ps,partsL x.p=ps:=⟨_,rfl⟩
   obtain⟨ps,hps⟩:=ob
   simp only[hps] at hpt hpn hpnm hpnl
   have hpl0:0<ps.length:=List.length_pos_iff.2 hpn
   have ob:∃nm,ps[ps.length - 1]?=some nm:=⟨_,List.getElem?_eq_getElem (by omega)⟩
   obtain⟨nm,hnm⟩:=ob
   have hnml:=isName_le (hpnm nm (List.mem_of_getElem? hnm))
   refine CW.seqM (fun f w=>Step [] (LE++(LB++D)) w0 w∧Holds f [(0,.int .i64 (k:Nat)),(1,.slice (some ⟨bl,ol,none⟩) l.length cv),(2,str p),(3,.int .i64 (i:Nat)),(11,vE),(12,vB)]) ?_ ?_
   ·by_cases hpe:p=[]
    ·refine sr<|wm<|wm<|wV (run_lenSl u65 rfl)<|wV (run_bT (run_lss rfl rfl) (by omega))<|wm<|wy<|wm<|wy<|wV (run_bT (run_strEq rfl rfl) (by exact hpe))<|wy<|wm<|wz<|wz<|wz<|wz<|wz<|wz<|wz ?_
     refine wy ?_;(first | refine WL.val rfl (run_pickT rfl) ?_ | refine WL.val rfl (run_pickF rfl) ?_)
     refine wV (run_pickT rfl)<|wZ<|CW.cond rfl (fun h=>?_) (fun h=>?_)
     ·refine ck ?_
      exact⟨rfl,hs,rfl,rfl,rfl,rfl,rfl,rfl,trivial⟩
     ·cases h
    ·cases ub with
     | true=>
      refine sr<|wm<|wm<|wV (run_lenSl u65 rfl)<|wV (run_bT (run_lss rfl rfl) (by omega))<|wm<|wy<|wm<|wy<|wV (run_bF (run_strEq rfl rfl) (by exact hpe))<|wy<|wm<|wy<|wm ?_
      refine wy<|wm<|wy<|wm ?_
      refine wy ?_;(first | refine WL.val rfl (run_ixSlN u65 ty155 rfl rfl (by omega)) ?_ | refine WL.val rfl (run_ixSl u65 ty155 rfl rfl (by omega)) ?_)
      refine wy<|wF 0 u155 rfl ty9 rfl<|wy<|wl ty9 rfl ((hrow hs).cell (j:=0) rfl)<|wy<|wE rfl (run_call en153 rfl rfl) (hun _) ?_
      rintro e w ⟨rfl,hq⟩
      refine⟨_,rfl,?_⟩
      replace hs:=hs.callE hq
      refine wy ?_;(first | refine WL.val rfl (run_pickT rfl) ?_ | refine WL.val rfl (run_pickF rfl) ?_)
      refine wV (run_pickT rfl)<|wZ<|CW.cond rfl (fun h=>?_) (fun h=>?_)
      ·refine ck ?_
       exact⟨rfl,hs,rfl,rfl,rfl,rfl,rfl,rfl,trivial⟩
      ·cases h
     | false=>
      refine sr<|wm<|wm<|wV (run_lenSl u65 rfl)<|wV (run_bT (run_lss rfl rfl) (by omega))<|wm<|wy<|wm<|wy<|wV (run_bF (run_strEq rfl rfl) (by exact hpe))<|wy<|wm<|wy<|wm ?_
      refine wy<|wm<|wy<|wm ?_
      refine wy ?_;(first | refine WL.val rfl (run_ixSlN u65 ty155 rfl rfl (by omega)) ?_ | refine WL.val rfl (run_ixSl u65 ty155 rfl rfl (by omega)) ?_)
      refine wy<|wF 0 u155 rfl ty9 rfl<|wy<|wl ty9 rfl ((hrow hs).cell (j:=0) rfl)<|wy<|wE rfl (run_call en153 rfl rfl) (hun _) ?_
      rintro e w ⟨rfl,hq⟩
      refine⟨_,rfl,?_⟩
      replace hs:=hs.callE hq
      refine wy ?_;(first | refine WL.val rfl (run_pickT rfl) ?_ | refine WL.val rfl (run_pickF rfl) ?_)
      refine wV (run_pickT rfl)<|wZ<|CW.cond rfl (fun h=>?_) (fun h=>?_)
      ·cases h
      refine CW.exit<|sr<|wm<|wm<|wm<|wA<|wA<|wA<|wZ<|CW.ret ?_
      refine fin_ret3 rfl ?_
      exact⟨vE,LE,El,vB,LB,B,D,i,rfl,hE,hEo,hEl,hB,hBo,hBl,hi0,hil2,hs⟩
   clear hs hf
   rintro f w ⟨hs,hf⟩
   have ob:=hf.chain
   obtain⟨g,rfl⟩:=ob
   refine cB<|sr<|wm<|wm<|wV (run_ixSlN u65 ty155 rfl rfl (by omega))<|wF 0 u155 rfl ty9 rfl<|wl ty9 rfl ((hrow hs).cell (j:=0) rfl)<|wE rfl (run_call en154 rfl rfl) (hpt _) ?_
   rintro e w ⟨u,Lu,rfl,hu,hq⟩
   refine⟨_,rfl,?_⟩
   replace hs:=Step.call0 hs hq
   refine wA<|wZ ?_
   have ob:=At.ownSl hu (w:=w) (fun q hq=>hs.has q (List.mem_append_left _ hq)) hpl0
   obtain⟨bu,cu,hue,hua⟩:=ob
   cases hue
   have hucell:∀{X:List (Nat×Obj)}{w':World},w'.cell? ⟨bu,0+(ps.length - 1)*1,none⟩=w.cell? ⟨bu,0+(ps.length - 1)*1,none⟩→w'.cell? ⟨bu,0+(ps.length - 1)*1,none⟩=some (str nm):=fun h=>by
    rw[h]
    refine hua.cell (j:=(ps.length - 1)*1) ?_
    rw[Nat.mul_one,strs,List.getElem?_map,hnm];rfl
   refine sr<|wm<|wm<|wV (run_lenSl u256 rfl)<|wV (run_sub (c:=((ps.length - 1:Nat):Int)) rfl rfl (by omega) (by omega))<|wV (run_ixSlN u256 ty9 rfl rfl (by omega))<|wl ty9 rfl (hucell (X:=[]) rfl)<|wV (run_build rfl (bld_ent _ _ _))<|WL.alloc ty115 rfl hs (fun b14 w hs=>?_)
   refine WL.storeAll ty115 rfl rfl ((by simp[Ent.cells,u8s])) ((Ent.cells1 _)) hs (by rfl) (fun w hs=>?_)
   refine wZ ?_
   replace hs:Step [] ((b14,blk 115 (Ent.cells ⟨nm,1,List.replicate 32 0⟩))::(LE++(LB++D))) w0 w:=Step.q1 hs
   refine CW.seqM (fun f w=>∃kd dg j vB2 LB2 B2 D2,dg.length=32∧(kd=1∨kd=2)∧i<j∧j≤l.length∧OwnSl 76 1 vB2 B2.length (cellsB B2) LB2∧BOk D2 B2∧B2.length≤j - i0∧Step [] ((b14,blk 115 (Ent.cells ⟨nm,kd,dg⟩))::(LE++(LB2++D2))) w0 w∧Holds f [(0,.int .i64 (k:Nat)),(1,.slice (some ⟨bl,ol,none⟩) l.length cv),(2,str p),(3,.int .i64 (j:Nat)),(11,vE),(12,vB2),(14,.pointer (some ⟨b14,0,none⟩))]) ?_ ?_
   ·have ob:∃b,x.d=b:=⟨_,rfl⟩
    obtain⟨xd,hxd⟩:=ob
    rw[hxd] at hrow
    cases xd with
    | true=>
     refine sr<|wm<|wm<|wV (run_ixSlN u65 ty155 rfl rfl (by omega))<|wF 1 u155 rfl ty4 rfl<|wl ty4 rfl ((hrow hs).cell (j:=1) rfl)<|wZ<|CW.cond rfl (fun h=>?_) (fun h=>?_)
     ·refine sr<|wF 1 u115 rfl ty3 rfl<|ws1 ty3 rfl rfl (rfl) hs (fun w hs=>?_)
      refine wZ ?_
      replace hs:Step [] ((b14,blk 115 (Ent.cells ⟨nm,2,List.replicate 32 0⟩))::(LE++(LB++D))) w0 w:=hs
      refine sr<|wm<|wm<|wm<|wm<|wV (run_ixSlN u65 ty155 rfl rfl (by omega))<|wF 0 u155 rfl ty9 rfl<|wl ty9 rfl ((hrow hs).cell (j:=0) rfl)<|wm<|wV (run_add (c:=((i+1:Nat):Int)) rfl rfl (by omega) (by omega))<|wE rfl (run_call en109 rfl rfl) (ih (i+1) (by omega) (by omega) x.p (by omega) w (hl.step0 hs.clear)) ?_
      rintro e w ⟨v2,LE2,E2,v3,LB2,B2,D2,j2,rfl,hE2,hE2o,hE2l,hB2,hB2o,hB2l,hj1,hj2,hq⟩
      refine⟨_,rfl,?_⟩
      replace hs:=Step.q4 (Step.call0 hs hq)
      refine wm<|wx rfl rfl<|wx rfl rfl<|wx rfl rfl<|wA<|wA<|wA<|wZ ?_
      have hes:∀{w:World},Step [] ((b14,blk 115 (Ent.cells ⟨nm,2,List.replicate 32 0⟩))::(LE2++(LB2++(D2++(LE++(LB++D)))))) w0 w→Es w v2 E2:=fun h=>⟨hE2.slW fun q hq=>h.has q (by simp[hq]),hE2o,by omega⟩
      refine sr<|wm<|wE rfl (run_call en57 rfl rfl) (encS_spec _ (hes hs) (hE2.roomW (by omega))) ?_
      rintro e w ⟨v18,y,L18,er,rfl,_,_,hv18,hyl,hq2⟩
      refine⟨_,rfl,?_⟩
      replace hs:=Step.q5 (Step.call0 hs hq2)
      refine wm<|wx rfl rfl<|wx rfl rfl<|wA<|wA<|wZ<|sr<|wm<|wm<|wE rfl (run_call en110 rfl rfl) (digest6_spec (x:=y) w (hv18.slW fun q hq=>hs.has q (by simp[hq])) (by omega) hk1 hk) ?_
      rintro e w ⟨rfl,hq3⟩
      refine⟨_,rfl,?_⟩
      replace hs:=hs.callE hq3
      refine wF 2 u115 rfl ty44 rfl<|WL.storeN ty44 rfl rfl ((by rw[u8s,List.length_map,frontL_len hk])) (Cells1.u8s _) (hs) (by first | (simp;done) | omega | (simp only[List.length_append,List.length_replicate,List.length_cons,List.length_nil,List.length_set];omega) | (simp[Ent.cells,u8s];done) | exact Nat.le_of_ble_eq_true rfl) (fun w hs=>?_)
      refine wZ ?_
      have hfr:=frontL_len (x:=y) hk
      have ob:∃dg,frontL y k=dg:=⟨_,rfl⟩
      obtain⟨dg,hdg⟩:=ob
      rw[hdg] at hfr hs
      replace hs:Step [] ((b14,blk 115 (Ent.cells ⟨nm,2,dg⟩))::(L18++(LE2++(LB2++(D2++(LE++(LB++D))))))) w0 w:=by rw[←splice_ent (z:=List.replicate 32 0) (by simp) hfr];exact hs
      have hs2:=Step.q6 hs
      have hBs:Sl w 1 v3 B2.length (cellsB B2):=hB2.slW fun q hq=>hs.has q (by simp[hq])
      have hHy:Held (L18++(D2++D)) v18 y:=⟨L18,hv18,fun q hq=>List.mem_append_left _ hq⟩
      have ob:=hv18.form
      obtain⟨ya,yc,rfl⟩:=ob
      refine sr<|wm<|wm<|WL.append u24 u24 ty76 rfl (by decide) rfl rfl (hB) (hs2) (hBs) (hB2o.c1) (by omega) rfl (fun v81 Lv81 w hv81 hs=>?_)
      refine wA<|wZ ?_
      replace hs:=hs
      refine sr<|wm<|wm<|WL.buildSlice (cs:=[.slice ya y.length yc]) (vs:=[(0,.slice ya y.length yc)]) u24 ty76 rfl (by decide) rfl (filled_s _ _ rfl) rfl hs (fun b84 w hs=>?_)
      have hsl84:Sl w 1 (.slice (some ⟨b84,0,none⟩) 1 1) 1 [Value.slice ya y.length yc]:=.own1 hs rfl
      replace hs:=Step.in1 (Z:=Lv81) hs
      refine WL.append u24 u24 ty76 rfl (by decide) rfl rfl (hv81) (hs) (hsl84) (Cells1.of_all rfl) (by omega) rfl (fun v85 Lv85 w hv85 hs=>?_)
      refine wA<|wZ ?_
      replace hs:=Step.q7 hs
      have hB3:OwnSl 76 1 v85 (B++B2++[(Value.slice ya y.length yc,y)]).length (cellsB (B++B2++[(Value.slice ya y.length yc,y)])) Lv85:=by
       rw[List.length_append,List.length_append,cellsB_snoc,cellsB_app];exact hv85
      have hB3o:BOk (L18++(D2++D)) (B++B2++[(Value.slice ya y.length yc,y)]):=((hBo.mono fun q hq=>by simp[hq]).app (hB2o.mono fun q hq=>by simp[hq])).app fun t ht=>by
       obtain rfl:=List.mem_singleton.1 ht
       exact⟨hHy,hyl⟩
      refine cr<|wm<|wA<|wZ ?_
      exact⟨rfl,2,dg,j2,v85,Lv85,_,_,hfr,.inr rfl,by omega,hj2,hB3,hB3o,by simp only[List.length_append,List.length_singleton];omega,hs,rfl,rfl,rfl,rfl,rfl,rfl,rfl,trivial⟩
     ·cases h
    | false=>
     refine sr<|wm<|wm<|wV (run_ixSlN u65 ty155 rfl rfl (by omega))<|wF 1 u155 rfl ty4 rfl<|wl ty4 rfl ((hrow hs).cell (j:=1) rfl)<|wZ<|CW.cond rfl (fun h=>?_) (fun h=>?_)
     ·cases h
     refine sr<|wm<|wm<|wm<|wV (run_ixSlN u65 ty155 rfl rfl (by omega))<|wF 2 u155 rfl ty76 rfl<|wl ty76 rfl ((hrow hs).cell (j:=2) rfl)<|wE rfl (run_call en110 rfl rfl) (digest6_spec (x:=x.x) w (by rw[←hvx];exact hxo.hb.step0 hs.clear) (by omega) hk1 hk) ?_
     rintro e w ⟨rfl,hq3⟩
     refine⟨_,rfl,?_⟩
     replace hs:=hs.callE hq3
     refine wF 2 u115 rfl ty44 rfl<|WL.storeN ty44 rfl rfl ((by rw[u8s,List.length_map,frontL_len hk])) (Cells1.u8s _) (hs) (by first | (simp;done) | omega | (simp only[List.length_append,List.length_replicate,List.length_cons,List.length_nil,List.length_set];omega) | (simp[Ent.cells,u8s];done) | exact Nat.le_of_ble_eq_true rfl) (fun w hs=>?_)
     refine wZ ?_
     have hfr:=frontL_len (x:=x.x) hk
     have ob:∃dg,frontL x.x k=dg:=⟨_,rfl⟩
     obtain⟨dg,hdg⟩:=ob
     rw[hdg] at hfr hs
     replace hs:Step [] ((b14,blk 115 (Ent.cells ⟨nm,1,dg⟩))::(LE++(LB++D))) w0 w:=by rw[←splice_ent (z:=List.replicate 32 0) (by simp) hfr];exact hs
     refine sr<|wm<|WL.buildSlice (cs:=[]) u76 ty5 rfl (by decide) rfl (by rfl) rfl hs (fun b96 w hs=>?_)
     refine wm<|wm<|wV (run_ixSlN u65 ty155 rfl rfl (by omega))<|wF 2 u155 rfl ty76 rfl<|wl ty76 rfl ((hrow hs).cell (j:=2) rfl)<|WL.append u76 u76 ty5 rfl (by decide) rfl rfl (OwnSl.mk (b:=b96) (xs:=[]) (k:=0) rfl) (hs) ((by rw[←hvx];exact hxo.hb.step0 hs.clear)) (Cells1.u8s _) (by omega) rfl (fun v102 Lv102 w hv102 hs=>?_)
     have hfv:=hv102.form
     obtain⟨ya,yc,hye⟩:=hfv
     subst hye
     refine WL.buildSlice (cs:=[.slice ya (0+x.x.length) yc]) (vs:=[(0,.slice ya (0+x.x.length) yc)]) u24 ty76 rfl (by decide) rfl (filled_s _ _ rfl) rfl hs (fun b103 w hs=>?_)
     have hsl103:Sl w 1 (.slice (some ⟨b103,0,none⟩) 1 1) 1 [Value.slice ya (0+x.x.length) yc]:=.own1 hs rfl
     replace hs:=Step.q2 hs
     refine WL.append u24 u24 ty76 rfl (by decide) rfl rfl (hB) (hs) (hsl103) (Cells1.of_all rfl) (by omega) rfl (fun v104 Lv104 w hv104 hs=>?_)
     refine wA<|wZ ?_
     replace hs:=Step.q3 hs
     have hHy:Held (Lv102++D) (.slice ya (0+x.x.length) yc) x.x:=⟨Lv102,by rw[Nat.zero_add] at hv102⊢;rw[List.nil_append] at hv102;exact hv102,fun q hq=>List.mem_append_left _ hq⟩
     have hB3:OwnSl 76 1 v104 (B++[(Value.slice ya (0+x.x.length) yc,x.x)]).length (cellsB (B++[(Value.slice ya (0+x.x.length) yc,x.x)])) Lv104:=by
      rw[List.length_append,cellsB_snoc];exact hv104
     have hB3o:BOk (Lv102++D) (B++[(Value.slice ya (0+x.x.length) yc,x.x)]):=(hBo.mono mem_right).app fun t ht=>by
      obtain rfl:=List.mem_singleton.1 ht
      exact⟨hHy,hxl⟩
     refine cr<|wm<|wV (run_add (c:=((i+1:Nat):Int)) rfl rfl (by omega) (by omega))<|wA<|wZ ?_
     exact⟨rfl,1,dg,i+1,v104,Lv104,_,_,hfr,.inl rfl,by omega,by omega,hB3,hB3o,by simp only[List.length_append,List.length_singleton];omega,hs,rfl,rfl,rfl,rfl,rfl,rfl,rfl,trivial⟩
   clear hs hf
   rintro f w ⟨kd,dg,j,vB2,LB2,B2,D2,hdg,hkd,hj1,hj2,hB2,hB2o,hB2l,hs,hf⟩
   have ob:=hf.chain
   obtain⟨g,rfl⟩:=ob
   have heo:Ent.ok (⟨nm,kd,dg⟩:Ent):=⟨hdg,by rcases hkd with h | h <;> (show _≤kd;omega),by rcases hkd with h | h <;> (show kd≤_;omega),by show nm.length≤_;omega⟩
   have hec:=Ent.cells_len heo
   refine cr<|wm<|wV (run_loadN ty115 rfl hec hs.a0)<|WL.buildSlice (cs:=Ent.cells ⟨nm,kd,dg⟩) u116 ty115 rfl (by decide) rfl (filled1 hec rfl) rfl hs (fun b109 w hs=>?_)
   have hsl109:Sl w 34 (.slice (some ⟨b109,0,none⟩) 1 1) 1 (Ent.cells ⟨nm,kd,dg⟩):=.own1 hs (by rw[hec])
   replace hs:=Step.in2 hs
   refine WL.append u116 u116 ty115 rfl (by decide) rfl rfl (hE) (hs) (hsl109) (Ent.cells1 _) (by omega) rfl (fun v110 Lv110 w hv110 hs=>?_)
   refine wA<|wZ ?_
   replace hs:=Step.out2 hs
   have hE2:OwnSl 115 34 v110 (El++[(⟨nm,kd,dg⟩:Ent)]).length (rows (El++[(⟨nm,kd,dg⟩:Ent)])) Lv110:=by
    rw[List.length_append,rows_append,rows_one];exact hv110
   refine(show _∧_ from⟨rfl,_,?_,j,v110,Lv110,_,vB2,LB2,B2,D2,by omega,hj2,rfl,hE2,hEo.append (Oks.one heo),?_,hB2,hB2o,hB2l,hs,rfl,rfl,rfl,rfl,rfl,rfl,trivial⟩)
   ·omega
   ·rw[List.length_append,List.length_singleton];omega
  ·have ob:=hf.chain
   obtain⟨g,rfl⟩:=ob
   refine cq<|sr<|wm<|wm<|wV (run_lenSl u65 rfl)<|wV (run_bF (run_lss rfl rfl) (by omega))<|wm<|wz<|wz<|wz<|wz<|wz<|wz<|wz<|wz<|wz<|wz<|wz<|wV (run_pickF rfl)<|wZ ?_
   refine CW.cond rfl (fun h=>?_) (fun h=>?_)
   ·cases h
   refine CW.exit<|sr<|wm<|wm<|wm<|wA<|wA<|wA<|wZ<|CW.ret ?_
   refine fin_ret3 rfl ?_
   exact⟨vE,LE,El,vB,LB,B,D,i,rfl,hE,hEo,hEl,hB,hBo,hBl,hi0,hil2,hs⟩
theorem fin_cellTmp2{P:Program}{n:Nat}{w:World}{fn:Func}{R:Ending→World→Prop}{f:Slots}{t u s:Tmp}{T:TypeId}{A:Addr}{v:Value} (hr:fn.results=#[.cell t T,.tmp u,.tmp s]) (hA:f t=.pointer (some A)) (hv:(loadVar T A).run P w=.ok v w) (h:R (.returned (.tuple #[v,f u,f s])) w):fin P n fn R .ret f [] w:=
 fun a ha=>bodyPost_ret (v:=.tuple #[v,f u,f s]) (by simp[results,hr,ha.get,hA,asAddr,hv]) ha.defers h
theorem cellsB_at{B:BL}{w:World}{b off:Nat} (h:At w b off (cellsB B)){i:Nat}{t:Value×List UInt8} (ht:B[i]?=some t):w.cell? ⟨b,off+i*1,none⟩=some t.1:=by
 refine h.cell (j:=i*1) ?_
 rw[Nat.mul_one,cellsB,List.getElem?_map,ht];rfl
section
variable{S:List Nat}{A B C D E F G X Y:List (Nat×Obj)}{a b c:Nat×Obj}{w w':World}
theorem Step.r1 (h:Step S ((A++(B++C))++(a::X)) w w'):Step S (a::(B++(A++(C++X)))) w w':=h.perm (by classical exact List.perm_iff_count.2 fun x=>by simp only[List.count_append,List.count_cons];omega)
theorem Step.r2 (h:Step S (A++(a::(B++(E++D)))) w w'):Step S (B++(a::(A++D))) w w':=Step.dropL (L1:=E) (h.perm (by classical exact List.perm_iff_count.2 fun x=>by simp only[List.count_append,List.count_cons];omega))
theorem Step.r3 (h:Step S (b::(B++X)) w w'):Step S (B++(b::X)) w w':=h.perm (by classical exact List.perm_iff_count.2 fun x=>by simp only[List.count_append,List.count_cons];omega)
theorem Step.r4 (h:Step S (B++(b::(a::X))) w w'):Step S (a::(B++X)) w w':=Step.tail (p:=b) (h.perm (by classical exact List.perm_iff_count.2 fun x=>by simp only[List.count_append,List.count_cons];omega))
theorem Step.r5 (h:Step S (b::(A++(a::(B++D)))) w w'):Step S (A++(b::(a::(B++D)))) w w':=h.perm (by classical exact List.perm_iff_count.2 fun x=>by simp only[List.count_append,List.count_cons];omega)
theorem Step.r6 (h:Step S (A++(b::(a::(B++D)))) w w'):Step S (A++(a::(B++D))) w w':=Step.tail (p:=b) (h.perm (by classical exact List.perm_iff_count.2 fun x=>by simp only[List.count_append,List.count_cons];omega))
theorem Step.r7 (h:Step S (A++(a::(B++D))) w w'):Step S (a::(A++(B++D))) w w':=h.perm List.perm_middle
end
def BuildPost (w0:World) (e:Ending) (w':World):Prop:=
 ∃d vB LB B D er,e=.returned (.tuple #[.agg (u8s d).toArray,vB,.int .i64 er])∧d.length=32∧OwnSl 76 1 vB B.length (cellsB B) LB∧BOk D B∧B.length≤131072∧Step [] (LB++D) w0 w'
set_option maxHeartbeats 16000000 in
theorem build_spec{k:Nat} (hk1:1≤k) (hk:k≤32){v:Value}{l:List It} (w0:World) (hl:Its w0 v l) (hpl:∀x∈l,x.p.length<4294967281) (hroom:Room v) :
  Calls Tryz.prog 59 #[.int .i64 (k:Nat),v] w0 (BuildPost w0):=by
 have hs:Step [] [] w0 w0:=Step.refl w0
 have ob:=hl.sl.form
 obtain⟨av,cv,rfl⟩:=ob
 have hrm:l.length≤cv:=hroom
 have hzl:(u8s zD).length=32:=by simp[u8s,zD]
 refine calls (n:=82) Tryz.func59 rfl rfl rfl ?_
 refine sr<|WL.alloc ty44 rfl hs (fun b4 w hs=>?_)
 refine wA<|wA<|wZ ?_
 replace hs:Step [] ((b4,blk 44 (u8s zD))::[]) w0 w:=hs
 refine cq<|sr<|wm<|wV (run_bF (run_lss rfl rfl) (by omega))<|wm<|wy<|wm<|wy<|wV (run_bF (run_gtr rfl rfl) (by omega))<|wV (run_pickF rfl)<|wZ<|CW.cond rfl (fun h=>?_) (fun h=>?_)
 ·cases h
 refine ck<|cq<|sr<|wm<|wE rfl (run_call en108 rfl rfl) (isTreeS_spec _ (hl.step0 hs.clear) hpl hroom) ?_
 rintro e w ⟨tb,rfl,htb,hq⟩
 refine⟨_,rfl,?_⟩
 replace hs:=hs.callE hq
 refine wV (run_not rfl)<|wZ ?_
 cases tb with
 | false=>
  refine CW.cond rfl (fun h=>?_) (fun h=>?_)
  ·refine sr<|wV (run_build rfl (bld_dig _))<|WL.storeAll ty44 rfl rfl ((hzl)) ((Cells1.u8s _)) hs (by rfl) (fun w hs=>?_)
   refine wA<|wA<|wZ<|CW.ret ?_
   refine fin_cellTmp2 rfl rfl (run_loadVarN ty44 hzl hs.a0) ?_
   exact⟨zD,_,[],[],[],64,rfl,by simp[zD],OwnSl.nil _ _,(fun t ht=>by cases ht),by simp,hs.tail⟩
  ·cases h
 | true=>
 have ob:=htb rfl
 obtain⟨hll,hgood⟩:=ob
 refine CW.cond rfl (fun h=>?_) (fun h=>?_)
 ·cases h
 refine ck<|sr<|wm<|wm<|wE rfl (run_call en109 rfl rfl) (entries_spec hk1 hk hll hrm hgood l.length 0 (by omega) (Nat.zero_le _) [] (by simp) w (hl.step0 hs.clear)) ?_
 rintro e w ⟨v7,L7,El,v8,L8,B,D1,j,rfl,hE,hEo,hEl,hB,hBo,hBl,_,hjl,hq⟩
 refine⟨_,rfl,?_⟩
 replace hs:=Step.r1 (Step.call0 hs hq)
 refine wm<|wx rfl rfl<|wx rfl rfl<|wx rfl rfl<|wA<|wA<|wA<|wZ ?_
 have hes:Es w v7 El:=⟨hE.slW fun q hq=>hs.has q (by simp[hq]),hEo,by omega⟩
 refine sr<|wm<|wE rfl (run_call en57 rfl rfl) (encS_spec _ hes (hE.roomW (by omega))) ?_
 rintro e w ⟨v10,y,L10,er,rfl,_,_,hv10,hyl,hq2⟩
 refine⟨_,rfl,?_⟩
 replace hs:=Step.r2 (D:=D1++[]) (Step.call0 hs hq2)
 refine wm<|wx rfl rfl<|wx rfl rfl<|wA<|wA<|wZ ?_
 have ob:=hv10.form
 obtain⟨ya,yc,rfl⟩:=ob
 have hHy:Held (L10++D1) (.slice ya y.length yc) y:=⟨L10,hv10,fun q hq=>List.mem_append_left _ hq⟩
 refine sr<|wm<|wm<|WL.buildSlice (cs:=[.slice ya y.length yc]) (vs:=[(0,.slice ya y.length yc)]) u24 ty76 rfl (by decide) rfl (filled_s _ _ rfl) rfl hs (fun b41 w hs=>?_)
 have hsl41:Sl w 1 (.slice (some ⟨b41,0,none⟩) 1 1) 1 [Value.slice ya y.length yc]:=.own1 hs rfl
 replace hs:=Step.r3 hs
 refine WL.append u24 u24 ty76 rfl (by decide) rfl rfl (hB) (hs) (hsl41) (Cells1.of_all rfl) (by omega) rfl (fun v42 Lv42 w hv42 hs=>?_)
 refine wA<|wZ ?_
 replace hs:Step [] ((b4,blk 44 (u8s zD))::(Lv42++(L10++D1))) w0 w:=by have h:=Step.r4 hs;rwa [List.append_nil] at h
 have ob:∃B2,B++[(Value.slice ya y.length yc,y)]=B2:=⟨_,rfl⟩
 obtain⟨B2,hB2⟩:=ob
 have hB3:OwnSl 76 1 v42 B2.length (cellsB B2) Lv42:=by
  rw[←hB2,List.length_append,cellsB_snoc];exact hv42
 have hB3o:BOk (L10++D1) B2:=by
  rw[←hB2]
  exact(hBo.mono mem_right).app fun t ht=>by
   obtain rfl:=List.mem_singleton.1 ht
   exact⟨hHy,hyl⟩
 have hB3l:B2.length≤65536:=by rw[←hB2,List.length_append,List.length_singleton];omega
 have ob:=hB3.form
 obtain⟨ba,bc,rfl⟩:=ob
 refine sr<|wA<|wZ<|cq<|sr<|wA<|wZ<|cB<|CW.loop (fun z f w'=>∃i vo Lo O,i≤B2.length∧z=B2.length - i∧OwnSl 76 1 vo O.length (cellsB O) Lo∧BOk (L10++D1) O∧O.length≤i∧Step [] (Lo++((b4,blk 44 (u8s zD))::(Lv42++(L10++D1)))) w0 w'∧Holds f [(0,.int .i64 (k:Nat)),(4,.pointer (some ⟨b4,0,none⟩)),(8,.slice ba B2.length bc),(10,.slice ya y.length yc),(12,vo),(13,.int .i64 (i:Nat))]) (m:=B2.length) ?_ ?_
 ·exact⟨0,_,[],[],Nat.zero_le _,rfl,OwnSl.nil _ _,(fun t ht=>by cases ht),Nat.le_refl _,hs,rfl,rfl,rfl,rfl,rfl,rfl,trivial⟩
 clear hs
 rintro z f w ⟨i,vo,Lo,O,hi,rfl,hO,hOo,hOl,hs,hf⟩
 have ob:=hf.chain
 obtain⟨g,rfl⟩:=ob
 by_cases hlt:i<B2.length
 ·have ob:∃t,B2[i]?=some t:=⟨_,List.getElem?_eq_getElem hlt⟩
  obtain⟨t,ht⟩:=ob
  have hto:=hB3o t (List.mem_of_getElem? ht)
  have ob:=At.ownSl hB3 (w:=w) (fun q hq=>hs.has q (by simp[hq])) (by omega)
  obtain⟨bb,cb,hbe,hba⟩:=ob
  cases hbe
  have hbcell:∀{X:List (Nat×Obj)}{w':World},Step [] X w0 w'→(∀q∈Lv42,q∈X)→w'.cell? ⟨bb,0+i*1,none⟩=some t.1:=fun h hX=>by
   have ob:=At.ownSl hB3 (w:=_) (fun q hq=>h.has q (hX q hq)) (by omega)
   obtain⟨bb2,cb2,hbe2,hba2⟩:=ob
   cases hbe2
   exact cellsB_at hba2 ht
  have ob:=hto.1.form
  obtain⟨ta,tc,htf⟩:=ob
  have htsl:∀{X:List (Nat×Obj)}{w':World},Step [] X w0 w'→(∀q∈L10++D1,q∈X)→Sl w' 1 t.1 t.2.length (u8s t.2):=fun h hX=>hto.1.sl fun q hq=>h.has q (hX q hq)
  rw[htf] at hbcell htsl
  refine cq<|sr<|wm<|wm<|wV (run_lenSl u24 rfl)<|wV (run_bT (run_lss rfl rfl) (by omega))<|wZ<|CW.cond rfl (fun h=>?_) (fun h=>?_)
  ·refine ck<|cq<|cB<|sr<|wA<|wZ<|CW.seqM (fun f w'=>∃th,Step [] (Lo++((b4,blk 44 (u8s zD))::(Lv42++(L10++D1)))) w0 w'∧Holds f [(0,.int .i64 (k:Nat)),(4,.pointer (some ⟨b4,0,none⟩)),(8,.slice (some ⟨bb,0,none⟩) B2.length bc),(10,.slice ya y.length yc),(12,vo),(13,.int .i64 (i:Nat)),(14,.bool th)]) ?_ ?_
   ·have ob:=hO.form
    obtain⟨oa,oc,rfl⟩:=ob
    refine sr<|wA<|wZ<|cB<|CW.loop (fun z f w'=>∃q th,q≤O.length∧z=O.length - q∧Step [] (Lo++((b4,blk 44 (u8s zD))::(Lv42++(L10++D1)))) w0 w'∧Holds f [(0,.int .i64 (k:Nat)),(4,.pointer (some ⟨b4,0,none⟩)),(8,.slice (some ⟨bb,0,none⟩) B2.length bc),(10,.slice ya y.length yc),(12,.slice oa O.length oc),(13,.int .i64 (i:Nat)),(14,.bool th),(15,.int .i64 (q:Nat))]) (m:=O.length) ?_ ?_
    ·exact⟨0,false,Nat.zero_le _,rfl,hs,rfl,rfl,rfl,rfl,rfl,rfl,rfl,rfl,trivial⟩
    clear hs
    rintro z f w ⟨q,th,hq,rfl,hs,hf⟩
    have ob:=hf.chain
    obtain⟨g,rfl⟩:=ob
    by_cases hql:q<O.length
    ·have ob:∃u,O[q]?=some u:=⟨_,List.getElem?_eq_getElem hql⟩
     obtain⟨u,hu⟩:=ob
     have huo:=hOo u (List.mem_of_getElem? hu)
     have ob:=At.ownSl hO (w:=w) (fun q hq=>hs.has q (List.mem_append_left _ hq)) (by omega)
     obtain⟨bo,co,hoe,hoa⟩:=ob
     cases hoe
     have hocell:∀{X:List (Nat×Obj)}{w':World},Step [] X w0 w'→(∀q∈Lo,q∈X)→w'.cell? ⟨bo,0+q*1,none⟩=some u.1:=fun h hX=>by
      have ob:=At.ownSl hO (w:=_) (fun q hq=>h.has q (hX q hq)) (by omega)
      obtain⟨bb2,cb2,hbe2,hba2⟩:=ob
      cases hbe2
      exact cellsB_at hba2 hu
     have ob:=huo.1.form
     obtain⟨ua,uc,huf⟩:=ob
     have husl:∀{X:List (Nat×Obj)}{w':World},Step [] X w0 w'→(∀q∈L10++D1,q∈X)→Sl w' 1 u.1 u.2.length (u8s u.2):=fun h hX=>huo.1.sl fun q hq=>h.has q (hX q hq)
     rw[huf] at hocell husl
     refine cq<|sr<|wm<|wm<|wV (run_lenSl u24 rfl)<|wV (run_bT (run_lss rfl rfl) (by omega))<|wZ<|CW.cond rfl (fun h=>?_) (fun h=>?_)
     ·cases th with
      | true=>
       refine ck<|cq<|cB<|CW.quiet mixedP (by kernel_rfl) hs ?_
       refine qm<|qm<|qz<|qz<|qz<|qz<|qz<|qz<|qz<|qz<|qz<|qz<|qz<|qV (fun w hs=>run_pickT rfl) ?_
       refine qV (fun w hs=>run_assign)<|QL.nil (fun w hs=>?_)
       refine cr<|wm<|wV (run_add (c:=((q+1:Nat):Int)) rfl rfl (by omega) (by omega))<|wA<|wZ<|(show _∧_ from⟨rfl,_,?_,q+1,true,hql,rfl,hs,rfl,rfl,rfl,rfl,rfl,rfl,rfl,rfl,trivial⟩)
       omega
      | false=>
       refine ck<|cq<|cB<|CW.quiet mixedP (by kernel_rfl) hs ?_
       refine qm<|qm<|qy<|qm<|qy<|qm ?_
       refine qy ?_;(first | refine QL.val rfl (fun w hs=>run_ixSlN u24 ty76 rfl rfl (by omega)) ?_ | refine QL.val rfl (fun w hs=>run_ixSl u24 ty76 rfl rfl (by omega)) ?_)
       refine qy<|qV (fun w hs=>run_load1 ty76 rfl (hocell hs (fun q hq=>List.mem_append_left _ hq)))<|qy<|qV (fun w hs=>run_toString u76 u9 u5 rfl (husl hs (fun q hq=>by simp only[List.mem_append,List.mem_cons] at hq⊢;rcases hq with hq | hq <;> simp[hq])))<|qy<|qm<|qy<|qm ?_
       refine qy ?_;(first | refine QL.val rfl (fun w hs=>run_ixSlN u24 ty76 rfl rfl (by omega)) ?_ | refine QL.val rfl (fun w hs=>run_ixSl u24 ty76 rfl rfl (by omega)) ?_)
       refine qy<|qV (fun w hs=>run_load1 ty76 rfl (hbcell hs (fun q hq=>by simp[hq])))<|qy<|qV (fun w hs=>run_toString u76 u9 u5 rfl (htsl hs (fun q hq=>by simp only[List.mem_append,List.mem_cons] at hq⊢;rcases hq with hq | hq <;> simp[hq])))<|qy<|qV (fun w hs=>run_strEq rfl rfl)<|qV (fun w hs=>run_pickF rfl)<|qV (fun w hs=>run_assign)<|QL.nil (fun w hs=>?_)
       refine cr<|wm<|wV (run_add (c:=((q+1:Nat):Int)) rfl rfl (by omega) (by omega))<|wA<|wZ<|(show _∧_ from⟨rfl,_,?_,q+1,_,hql,rfl,hs,rfl,rfl,rfl,rfl,rfl,rfl,rfl,rfl,trivial⟩)
       omega
     ·cases h
    ·obtain rfl:q=O.length:=by omega
     refine cq<|sr<|wm<|wm<|wV (run_lenSl u24 rfl)<|wV (run_bF (run_lss rfl rfl) (by omega))<|wZ<|CW.cond rfl (fun h=>?_) (fun h=>?_)
     ·cases h
     refine CW.exit ?_
     exact⟨rfl,th,hs,rfl,rfl,rfl,rfl,rfl,rfl,rfl,trivial⟩
   clear hs hf
   rintro f w ⟨th,hs,hf⟩
   have ob:=hf.chain
   obtain⟨g,rfl⟩:=ob
   cases th with
   | true=>
    refine sr<|wm<|wV (run_not rfl)<|wZ<|CW.cond rfl (fun h=>?_) (fun h=>?_)
    ·cases h
    refine ck<|cr<|wm<|wV (run_add (c:=((i+1:Nat):Int)) rfl rfl (by omega) (by omega))<|wA<|wZ<|(show _∧_ from⟨rfl,_,?_,i+1,vo,Lo,O,hlt,rfl,hO,hOo,by omega,hs,rfl,rfl,rfl,rfl,rfl,rfl,trivial⟩)
    omega
   | false=>
    refine sr<|wm<|wV (run_not rfl)<|wZ<|CW.cond rfl (fun h=>?_) (fun h=>?_)
    ·skip
     refine cr<|wm<|wm<|wm<|wV (run_ixSlN u24 ty76 rfl rfl (by omega))<|wl ty76 rfl (hbcell hs (fun q hq=>by simp[hq]))<|WL.buildSlice (cs:=[.slice ta t.2.length tc]) (vs:=[(0,.slice ta t.2.length tc)]) u24 ty76 rfl (by decide) rfl (filled_s _ _ rfl) rfl hs (fun b76 w hs=>?_)
     have hsl76:Sl w 1 (.slice (some ⟨b76,0,none⟩) 1 1) 1 [Value.slice ta t.2.length tc]:=.own1 hs rfl
     replace hs:=Step.r5 (A:=Lo) (B:=Lv42) hs
     refine WL.append u24 u24 ty76 rfl (by decide) rfl rfl (hO) (hs) (hsl76) (Cells1.of_all rfl) (by omega) rfl (fun v77 Lv77 w hv77 hs=>?_)
     refine wA<|wZ ?_
     replace hs:=Step.r6 (A:=Lv77) (B:=Lv42) hs
     have hO2:OwnSl 76 1 v77 (O++[t]).length (cellsB (O++[t])) Lv77:=by
      rw[List.length_append,cellsB_snoc,htf];exact hv77
     refine cr<|wm<|wV (run_add (c:=((i+1:Nat):Int)) rfl rfl (by omega) (by omega))<|wA<|wZ<|(show _∧_ from⟨rfl,_,?_,i+1,v77,Lv77,O++[t],hlt,rfl,hO2,hOo.app (fun u hu=>by obtain rfl:=List.mem_singleton.1 hu;exact hto),?_,hs,rfl,rfl,rfl,rfl,rfl,rfl,trivial⟩)
     ·omega
     ·rw[List.length_append,List.length_singleton];omega
    ·cases h
  ·cases h
 ·obtain rfl:i=B2.length:=by omega
  replace hs:=Step.r7 (A:=Lo) (B:=Lv42) hs
  have hfr:=frontL_len (x:=y) hk
  have hfl:(u8s (frontL y k)).length=32:=by rw[u8s,List.length_map,hfr]
  refine cq<|sr<|wm<|wm<|wV (run_lenSl u24 rfl)<|wV (run_bF (run_lss rfl rfl) (by omega))<|wZ<|CW.cond rfl (fun h=>?_) (fun h=>?_)
  ·cases h
  refine CW.exit<|sr<|wm<|wm<|wE rfl (run_call en110 rfl rfl) (digest6_spec (x:=y) w (hv10.slW fun q hq=>hs.has q (by simp[hq])) (by omega) hk1 hk) ?_
  rintro e w ⟨rfl,hq3⟩
  refine⟨_,rfl,?_⟩
  replace hs:=hs.callE hq3
  refine wm<|WL.storeAll ty44 rfl rfl ((hfl)) ((Cells1.u8s _)) hs (by rfl) (fun w hs=>?_)
  refine wA<|wA<|wZ<|CW.ret ?_
  refine fin_cellTmp2 rfl rfl (run_loadVarN ty44 hfl hs.a0) ?_
  exact⟨frontL y k,vo,Lo,O,L10++D1,0,rfl,hfr,hO,hOo,by omega,(by
   have h:=hs.tail
   refine Step.dropL (L1:=Lv42) (h.perm ?_)
   exact List.perm_append_comm_assoc _ _ _)⟩
section
variable{S:List Nat}{A L L' R R' D D' W X:List (Nat×Obj)}{w0 w w':World}
theorem Lives.sub{L L2:List (Nat×Obj)}{w:World} (h:Lives L w) (hs:L2.Sublist L):Lives L2 w:=
 Step.own (L1:=L2) (L:=[]) (by
  rw[List.append_nil]
  exact(⟨h.chg,(h.nodup).sublist (hs.map _),fun p hp=>h.has p (hs.subset hp),fun p hp=>h.new p (hs.subset hp)⟩:Step (L.map (·.1)) L2 w w))
theorem Two.live (hs:Step S (A++(L++(R++D))) w0 w):Lives (L++D) w:=(Own.live hs).sub (by
 exact(List.Sublist.refl L).append (List.sublist_append_right R D))
theorem Two.rlive (hs:Step S (A++(L++(R++D))) w0 w):Lives (R++D) w:=Own.live (A:=A++L) (by rw[List.append_assoc];exact hs)
theorem Two.put (hs:Step S (A++(L++(R++D))) w0 w) (hq:Step (L.map (·.1)) (L'++D') w w'):Step S (A++(L'++(R++(D'++D)))) w0 w':=(Own.put hs hq).perm (by
 have h:(D'++R).Perm (R++D'):=List.perm_append_comm
 have h2:=(h.append_right D).append_left (A++L')
 simpa[List.append_assoc] using h2)
theorem Two.set (hs:Step S (A++(L++(R++D))) w0 w) (hq:Step (L.map (·.1)) L' w w'):Step S (A++(L'++(R++D))) w0 w':=Own.set hs hq
theorem Two.rput (hs:Step S (A++(L++(R++D))) w0 w) (hq:Step (R.map (·.1)) (R'++D') w w'):Step S (A++(L++(R'++(D'++D)))) w0 w':=by
 have h:=Own.put (A:=A++L) (L:=R) (by rw[List.append_assoc];exact hs) hq
 rwa [List.append_assoc] at h
theorem Two.rset (hs:Step S (A++(L++(R++D))) w0 w) (hq:Step (R.map (·.1)) R' w w'):Step S (A++(L++(R'++D))) w0 w':=by
 have h:=Own.set (A:=A++L) (L:=R) (by rw[List.append_assoc];exact hs) hq
 rwa [List.append_assoc] at h
theorem OutE.new{v:Value}{y:List UInt8} (hs:Step S X w0 w) (h:Sl w0 1 v y.length (u8s y)) (hO:OutE v y S) (hL:∀p∈L,p∈X):OutE v y (L.map (·.1)):=by
 rcases hO with hO | hO
 ·exact .inl hO
 obtain⟨hl,⟨a,c,rfl,h0⟩ | ⟨b,off,c,rfl,hat⟩⟩:=h
 ·exact .inl (List.eq_nil_of_length_eq_zero h0)
 ·by_cases hy:y=[]
  ·exact .inl hy
  ·refine .inr fun hm=>?_
   have hb:=hat.lt (by simpa[u8s] using hy)
   have ob:=List.mem_map.1 hm
   obtain⟨p,hp,hpe⟩:=ob
   have hpe':p.1=b:=hpe
   rcases hs.new p (hL p hp) with h1 | h1
   ·exact hO (by rw[←hpe'];exact h1)
   ·omega
end
theorem put_len (s:AS) (hk:s.k≤32) (y:List UInt8):(s.put y).1.length=32:=by
 have hgo:∀r:List UInt8×Nat×AS,r=(match ({ s with puts:=s.puts+1 }:AS).lay (frontL y s.k) y with | some s2=>(frontL y s.k,0,s2) | none=>(zD,43,{ s with puts:=s.puts+1 }))→r.1.length=32:=by
  intro r hr
  cases hl:({ s with puts:=s.puts+1 }:AS).lay (frontL y s.k) y with
  | none=>rw[hl] at hr;rw[hr];exact zD_len
  | some s2=>rw[hl] at hr;subst hr;exact frontL_len hk
 unfold AS.put
 simp only
 split
 ·exact zD_len
 ·split
  ·split
   ·exact frontL_len hk
   ·split
    ·exact zD_len
    ·exact hgo _ rfl
  ·exact hgo _ rfl
theorem plant_k' (s:AS) (d y:List UInt8):(s.plant d y).2.k=s.k:=by
 unfold AS.plant
 split
 ·rfl
 ·split
  ·rfl
  ·split
   ·rename_i s2 hl
    exact(lay_k hl).trans rfl
   ·rfl
def w8C (bp br:Nat) (vR:Value):List Value:=[.pointer (some ⟨bp,0,none⟩),.pointer (some ⟨br,0,none⟩),vR]
structure MX (bw bp br:Nat) (G:List (Nat×Obj)) (w0:World) (s:AS) (roots:List (List UInt8)) (vR:Value) (LR L R D:List (Nat×Obj)) (w:World):Prop where
 pr:PRep bp s D L
 rr:RRep br s D R
 ok:s.Ok
 vr:OwnSl 44 32 vR roots.length (digsL roots) LR
 r32:∀d∈roots,d.length=32
 hs:Step [] (G++((bw,blk 42 (w8C bp br vR))::(LR++(L++(R++D))))) w0 w
section
variable{bw bp br n:Nat}{G A:List (Nat×Obj)}{w0 w w':World}{s:AS}{roots:List (List UInt8)}{vR v:Value}{LR L R D:List (Nat×Obj)}{y:List UInt8}
theorem MX.add (h:MX bw bp br G w0 s roots vR LR L R D w) (hq:Step [] A w w'):MX bw bp br (A++G) w0 s roots vR LR L R D w':=⟨h.pr,h.rr,h.ok,h.vr,h.r32,by rw[List.append_assoc];exact Step.call0 h.hs hq⟩
theorem MX.drop (h:MX bw bp br (A++G) w0 s roots vR LR L R D w):MX bw bp br G w0 s roots vR LR L R D w:=⟨h.pr,h.rr,h.ok,h.vr,h.r32,Step.dropL (L1:=A) (by rw[←List.append_assoc];exact h.hs)⟩
theorem MX.get{p:Nat×Obj} (h:MX bw bp br G w0 s roots vR LR L R D w) (hp:p∈G):w.heap[p.1]?=some p.2:=h.hs.has p (List.mem_append_left _ hp)
theorem MX.wc (h:MX bw bp br G w0 s roots vR LR L R D w):At w bw 0 (w8C bp br vR):=At.of_blk (h.hs.has (bw,blk 42 (w8C bp br vR)) (by simp))
theorem perm_mx{α:Type}{G LR L R D:List α}{b:α}:(G++(b::(LR++(L++(R++D))))).Perm ((G++(b::LR))++(L++(R++D))):=by simp[List.append_assoc]
theorem MX.lives (h:MX bw bp br G w0 s roots vR LR L R D w):Lives (L++D) w:=Two.live (A:=G++(_::LR)) (h.hs.perm perm_mx)
theorem MX.rlives (h:MX bw bp br G w0 s roots vR LR L R D w):Lives (R++D) w:=Two.rlive (A:=G++(_::LR)) (h.hs.perm perm_mx)
def Src (G:List (Nat×Obj)) (w0:World) (v:Value) (y:List UInt8):Prop:=Sl w0 1 v y.length (u8s y)∨Held G v y
theorem Src.sl{X:List (Nat×Obj)} (h:Src G w0 v y) (hs:Step [] X w0 w) (hG:∀p∈G,p∈X):Sl w 1 v y.length (u8s y):=by
 rcases h with h | h
 ·exact h.step0 hs
 ·exact h.sl fun p hp=>hs.has p (hG p hp)
theorem Src.out{M Y:List (Nat×Obj)} (h:Src G w0 v y) (hs:Step [] (M++(G++Y)) w0 w):OutE v y (M.map (·.1)):=by
 rcases h with h | h
 ·exact OutE.new hs h (.inr (outside_nil _)) fun p hp=>List.mem_append_left _ hp
 ·refine .inr (h.out fun p hp hm=>?_)
  have hn:=hs.nodup
  rw[List.map_append,List.nodup_append] at hn
  exact hn.2.2 p.1 hm p.1 (List.mem_map_of_mem (List.mem_append_left _ hp)) rfl
theorem perm_o1{α:Type}{G LR L R D:List α}{b:α}:(G++(b::(LR++(L++(R++D))))).Perm (L++(G++(b::(LR++(R++D))))):=by
 classical exact List.perm_iff_count.2 fun x=>by simp only[List.count_append,List.count_cons];omega
theorem perm_o2{α:Type}{G LR L R D:List α}{a b:α}:(a::((G++(b::LR))++(L++(R++D)))).Perm (R++(G++(a::b::(LR++(L++D))))):=by
 classical exact List.perm_iff_count.2 fun x=>by simp only[List.count_append,List.count_cons];omega
theorem perm_o3{α:Type}{G LR L R D:List α}{a c b:α}:(c::a::((G++(b::LR))++(L++(R++D)))).Perm (c::a::(G++(b::(LR++(L++(R++D)))))):=by
 classical exact List.perm_iff_count.2 fun x=>by simp only[List.count_append,List.count_cons];omega
set_option maxHeartbeats 8000000 in
theorem MX.put (h:MX bw bp br G w0 s roots vR LR L R D w) (few:s.Few n) (hn:n<1000000000) (hv:Src G w0 v y) (hr:Room v) (hy:y.length<1099511627776) :
  Calls Tryz.prog 60 #[.pointer (some ⟨bw,0,none⟩),v] w fun e w'=>e=.returned (.bool true)∧∃L' R' D',MX bw bp br G w0 (s.put y).2.2 roots vR LR L' R' D' w':=by
 have hs:=h.hs
 have ok:=h.ok
 have hpl:=put_len s ok.k2 y
 have hdl:(u8s (s.put y).1).length=32:=by rw[u8s,List.length_map,hpl]
 have hput:=put_abs h.pr ok few (by omega) h.lives (hv.sl hs fun p hp=>List.mem_append_left _ hp) hr (hv.out (hs.perm perm_o1)) hy
 have hrput:=fun{w1:World}{D1:List (Nat×Obj)} h1 h2 h3=>rput_abs (w0:=w1) (h.rr.mono (D':=D1++D) mem_right) ok few (by omega) h1 (y:=y) (v:=v) h2 h3 hy
 have hok:=ok.put y
 have ob:∃r,s.put y=r:=⟨_,rfl⟩
 obtain⟨r,hre⟩:=ob
 simp only[hre] at hput hrput hpl hdl hok
 rw[hre]
 replace hs:=hs.perm perm_mx
 refine calls (n:=35) Tryz.func60 rfl rfl rfl ?_
 refine sr<|wA<|wZ<|sr<|wm<|wn rfl<|wF 0 u42 rfl ty39 rfl<|wl ty39 rfl ((h.wc.cell (j:=0) rfl))<|wm<|wE rfl (run_call en36 rfl rfl) (hput) ?_
 rintro e w ⟨L1,D1,rfl,hP1,hq⟩
 refine⟨_,rfl,?_⟩
 replace hs:=Two.put hs hq
 refine wm<|wx rfl rfl<|wx rfl rfl<|WL.alloc ty44 rfl hs (fun b5 w hs=>?_)
 refine WL.storeAll ty44 rfl rfl ((hdl)) ((Cells1.u8s _)) hs (by rfl) (fun w hs=>?_)
 refine wA<|wZ ?_
 have hwc:At w bw 0 (w8C bp br vR):=At.of_blk (hs.has (bw,blk 42 (w8C bp br vR)) (by simp))
 refine sr<|wm<|wn rfl<|wF 1 u42 rfl ty40 rfl<|wl ty40 rfl ((hwc.cell (j:=1) rfl))<|wm<|wE rfl (run_call en74 rfl rfl) (hrput (Two.rlive (A:=_::(G++(_::LR))) hs) (hv.sl hs fun p hp=>by simp[hp]) (hv.out (hs.perm perm_o2))) ?_
 rintro e w ⟨R1,D2,rfl,hR1,hq2⟩
 refine⟨_,rfl,?_⟩
 replace hs:=Two.rput (A:=_::(G++(_::LR))) hs hq2
 refine wm<|wx rfl rfl<|wx rfl rfl<|WL.alloc ty44 rfl hs (fun b7 w hs=>?_)
 refine WL.storeAll ty44 rfl rfl ((hdl)) ((Cells1.u8s _)) hs (by rfl) (fun w hs=>?_)
 refine wA<|wZ<|sr<|wV (run_loadN ty44 rfl hdl hs.a1)<|wV (run_loadN ty44 rfl hdl hs.a0)<|wV (run_bT (run_eqDig hpl hpl rfl rfl) rfl)<|wm<|wy<|wm<|wy<|wm<|wy<|wV (run_bT (run_eql rfl rfl) (by rfl))<|wV (run_pickT rfl)<|wA<|wZ ?_
 refine CW.ret ?_
 refine fin_ret1 rfl ?_
 have hs2:=(hs.perm perm_o3).tail.tail
 exact⟨rfl,L1,R1,D2++(D1++D),hP1.mono mem_right,hR1,hok,h.vr,h.r32,hs2⟩
end
theorem RRep.look{br:Nat}{s:AS}{D R:List (Nat×Obj)} (h:RRep br s D R) (hl:∀b∈s.X,b.d.length=32) :
  ∃a c,s.X.length≤c∧∀{w:World},(∀p∈R,w.heap[p.1]?=some p.2)→At w br 0 (rsC s.k s.cap s.last (.slice a s.X.length c) s.gets s.puts)∧∀(i:Nat) (b:Blb),s.X[i]?=some b→∃bx,a=some ⟨bx,0,none⟩∧At w bx (0+i*34) (u8s b.d):=by
 obtain⟨v,Lv,T,rfl,ho,hv⟩:=h
 have ob:=ho.form
 obtain⟨a,c,rfl⟩:=ob
 have hroom:s.X.length≤c:=ho.roomW (by omega)
 refine⟨a,c,hroom,fun {w} hw=>⟨At.of_blk (hw (br,blk 54 (rsC s.k s.cap s.last (.slice a s.X.length c) s.gets s.puts)) (by simp)),fun i b hb=>?_⟩⟩
 have hlt:=(List.getElem?_eq_some_iff.1 hb).1
 have ob:=At.ownSl ho (w:=w) (fun p hp=>hw p (by simp[hp])) (by omega)
 obtain⟨bx,cx,hbe,hat⟩:=ob
 cases hbe
 have ob:=hv.at hb
 obtain⟨t,ht,h1,h2,h3⟩:=ob
 refine⟨bx,rfl,?_⟩
 have h4:=(hat.rowT (hv.len32 hl) ht).take 32
 rw[rbC_fst (by rw[h1];exact hl b (List.mem_of_getElem? hb)),h1] at h4
 exact h4
def d123:List UInt8:=[1,2,3]++List.replicate 29 0
theorem bld_d123 (w:World):(Instr.build 44 #[(0,.int .u8 1),(1,.int .u8 2),(2,.int .u8 3)]).run Tryz.prog w=.ok (.agg (u8s d123).toArray) w:=by kernel_rfl
def rootF (roots:List (List UInt8)) (X:List Blb) (z:Int):List UInt8:=
 if roundZ z (2*roots.length+X.length+1)<2*roots.length then roots.getD (roundZ z (2*roots.length+X.length+1) % roots.length) zD
 else if roundZ z (2*roots.length+X.length+1) - 2*roots.length<X.length then ((X[roundZ z (2*roots.length+X.length+1) - 2*roots.length]?).map (·.d)).getD zD
 else d123
theorem rootF_len{roots:List (List UInt8)}{X:List Blb} (hr:∀d∈roots,d.length=32) (hX:∀b∈X,b.d.length=32) (z:Int):(rootF roots X z).length=32:=by
 have hz:zD.length=32:=by simp[zD]
 unfold rootF
 split
 ·rw[List.getD_eq_getElem?_getD]
  cases h:roots[roundZ z (2*roots.length+X.length+1) % roots.length]? with
  | none=>exact hz
  | some d=>exact hr d (List.mem_of_getElem? h)
 ·split
  ·cases h:X[roundZ z (2*roots.length+X.length+1) - 2*roots.length]? with
   | none=>exact hz
   | some b=>exact hX b (List.mem_of_getElem? h)
  ·simp[d123]
section
variable{bw bp br n:Nat}{G A:List (Nat×Obj)}{w0 w w':World}{s:AS}{roots:List (List UInt8)}{vR v:Value}{LR L R D:List (Nat×Obj)}{y:List UInt8}{z:Int}
theorem perm_rm{α:Type}{G LR L R D:List α}{b p:α} (hp:p∈R):p∈(G++(b::(LR++(L++(R++D))))):=by simp[hp]
set_option maxHeartbeats 8000000 in
theorem root8_spec (hwc:At w bw 0 (w8C bp br vR)) (hdg:Dgs w vR roots) (hrr:RRep br s D R) (hR:∀p∈R,w.heap[p.1]?=some p.2) (ok:s.Ok) (hl:roots.length≤1000000) (hz : -9223372036854775808≤z∧z≤9223372036854775807) :
  Calls Tryz.prog 18 #[.pointer (some ⟨bw,0,none⟩),.int .i64 z] w (Ret0 (.agg (u8s (rootF roots s.X z)).toArray) w):=by
 have hs:Step [] [] w w:=Step.refl w
 have ob:=hrr.look ok.len
 obtain⟨xa,xc,hxc,hlook⟩:=ob
 have ob:=hlook (w:=w) hR
 obtain⟨hrc,hrow⟩:=ob
 have hxl:=used_len s.X
 have hxu:=ok.used
 have ob:=hdg.form
 obtain⟨va,vc,rfl⟩:=ob
 have ob:∃m,2*roots.length+s.X.length+1=m:=⟨_,rfl⟩
 obtain⟨m,hm⟩:=ob
 have hrnd:=fun w=>roundL_spec (a:=z) (n:=m) (by omega) (by omega) hz w
 have hrlt:=roundZ_lt (a:=z) (n:=m) (by omega)
 have hlen:=rootF_len (z:=z) hdg.len ok.len
 have ob:∃d,rootF roots s.X z=d:=⟨_,rfl⟩
 obtain⟨d,hd⟩:=ob
 have hd0:=hd
 unfold rootF at hd
 rw[hm] at hd
 rw[hd0] at hlen⊢
 have ob:∃k,roundZ z m=k:=⟨_,rfl⟩
 obtain⟨k,hk⟩:=ob
 rw[hk] at hrlt hd
 simp only[hk] at hrnd
 have hdl:(u8s d).length=32:=by rw[u8s,List.length_map,hlen]
 have hzl:(u8s zD).length=32:=by simp[u8s,zD]
 refine calls (n:=67) Tryz.func18 rfl rfl rfl ?_
 refine sr<|WL.alloc ty44 rfl hs (fun b4 w hs=>?_)
 refine wZ<|sr<|wm<|wn rfl<|wF 2 u42 rfl ty35 rfl<|wl ty35 rfl (((hwc.step hs.clear (by simp)).cell (j:=2) rfl))<|wV (run_lenSl u35 rfl)<|wA<|wZ<|sr<|wm<|wm<|wV (run_mul (c:=((2*roots.length:Nat):Int)) rfl rfl (by omega) (by omega))<|wm<|wn rfl<|wF 1 u42 rfl ty40 rfl<|wl ty40 rfl (((hwc.step hs.clear (by simp)).cell (j:=1) rfl))<|wn rfl<|wF 3 u54 rfl ty52 rfl<|wl ty52 rfl (((hrc.step hs.clear (by simp)).cell (j:=3) rfl))<|wV (run_lenSl u52 rfl)<|wV (run_add (c:=((2*roots.length+s.X.length:Nat):Int)) rfl rfl (by omega) (by omega)) ?_
 refine wV (run_add (c:=((m:Nat):Int)) rfl rfl (by omega) (by omega))<|wE rfl (run_call en46 rfl rfl) (hrnd _) ?_
 rintro e w ⟨rfl,hq⟩
 refine⟨_,rfl,?_⟩
 replace hs:=hs.callE hq
 refine wA<|wZ ?_
 by_cases c1:k<2*roots.length
 ·rw[if_pos c1] at hd
  have hkn:k % roots.length<roots.length:=Nat.mod_lt _ (by omega)
  have hkd:roots[k % roots.length]?=some d:=by
   rw[List.getD_eq_getElem?_getD,List.getElem?_eq_getElem hkn,Option.getD_some] at hd
   rw[List.getElem?_eq_getElem hkn,hd]
  have ob:=hdg.at hkd
  obtain⟨b,off,c,hbe,hat⟩:=ob
  cases hbe
  refine cq<|sr<|wm<|wm<|wV (run_mul (c:=((2*roots.length:Nat):Int)) rfl rfl (by omega) (by omega))<|wV (run_bT (run_lss rfl rfl) (by omega))<|wZ<|CW.cond rfl (fun h=>?_) (fun h=>?_)
  ·refine cq<|CW.quietT (l1:=[_,_,_,_,_,_,_,_,_]) (l2:=[_]) 9 rfl mixedP rfl (by kernel_rfl) hs ?_
   refine qm<|qn rfl<|qF 2 u42 rfl ty35 rfl<|qV (fun w hs=>run_load1 ty35 rfl (((hwc.step hs.clear (by simp)).cell (j:=2) rfl)))<|qm<|qm<|qV (fun w hs=>run_remN (n:=k) (m:=roots.length) rfl rfl (by omega))<|qV (fun w hs=>run_ixSlN u35 ty44 rfl rfl (by omega))<|qV (fun w hs=>run_loadN ty44 rfl hdl (hat.step hs.clear (by simp)))<|QL.nil (fun w hs=>?_)
   refine WL.storeAll ty44 rfl rfl ((hdl)) ((Cells1.u8s _)) hs (by rfl) (fun w hs=>?_)
   refine wZ<|CW.ret ?_
   refine fin_cell1 rfl rfl (run_loadVarN ty44 (by assumption) hs.a0) ?_
   exact⟨rfl,hs.clear⟩
  ·cases h
 rw[if_neg c1] at hd
 by_cases c2:k - 2*roots.length<s.X.length
 ·rw[if_pos c2,List.getElem?_eq_getElem c2,Option.map_some,Option.getD_some] at hd
  have ob:=hrow (k - 2*roots.length) _ (List.getElem?_eq_getElem c2)
  obtain⟨bx,hbe,hat⟩:=ob
  subst hbe
  rw[hd] at hat
  refine cq<|sr<|wm<|wm<|wV (run_mul (c:=((2*roots.length:Nat):Int)) rfl rfl (by omega) (by omega))<|wV (run_bF (run_lss rfl rfl) (by omega))<|wZ<|CW.cond rfl (fun h=>?_) (fun h=>?_)
  ·cases h
  refine ck<|cq<|sr<|wm<|wm<|wV (run_mul (c:=((2*roots.length:Nat):Int)) rfl rfl (by omega) (by omega))<|wV (run_sub (c:=((k - 2*roots.length:Nat):Int)) rfl rfl (by omega) (by omega))<|wm<|wn rfl<|wF 1 u42 rfl ty40 rfl<|wl ty40 rfl (((hwc.step hs.clear (by simp)).cell (j:=1) rfl))<|wn rfl<|wF 3 u54 rfl ty52 rfl<|wl ty52 rfl (((hrc.step hs.clear (by simp)).cell (j:=3) rfl))<|wV (run_lenSl u52 rfl)<|wV (run_bT (run_lss rfl rfl) (by omega))<|wZ ?_
  refine CW.cond rfl (fun h=>?_) (fun h=>?_)
  ·refine sr<|wm<|wn rfl<|wF 1 u42 rfl ty40 rfl<|wl ty40 rfl (((hwc.step hs.clear (by simp)).cell (j:=1) rfl))<|wn rfl<|wF 3 u54 rfl ty52 rfl<|wl ty52 rfl (((hrc.step hs.clear (by simp)).cell (j:=3) rfl))<|wm<|wm<|wV (run_mul (c:=((2*roots.length:Nat):Int)) rfl rfl (by omega) (by omega))<|wV (run_sub (c:=((k - 2*roots.length:Nat):Int)) rfl rfl (by omega) (by omega))<|wV (run_ixSlN u52 ty80 rfl rfl (by omega))<|wF 0 u80 rfl ty44 rfl<|wV (run_loadN ty44 rfl hdl (hat.step hs.clear (by simp))) ?_
   refine WL.storeAll ty44 rfl rfl ((hdl)) ((Cells1.u8s _)) hs (by rfl) (fun w hs=>?_)
   refine wZ<|CW.ret ?_
   refine fin_cell1 rfl rfl (run_loadVarN ty44 (by assumption) hs.a0) ?_
   exact⟨rfl,hs.clear⟩
  ·cases h
 rw[if_neg c2] at hd
 subst hd
 refine cq<|sr<|wm<|wm<|wV (run_mul (c:=((2*roots.length:Nat):Int)) rfl rfl (by omega) (by omega))<|wV (run_bF (run_lss rfl rfl) (by omega))<|wZ<|CW.cond rfl (fun h=>?_) (fun h=>?_)
 ·cases h
 refine ck<|cq<|sr<|wm<|wm<|wV (run_mul (c:=((2*roots.length:Nat):Int)) rfl rfl (by omega) (by omega))<|wV (run_sub (c:=((k - 2*roots.length:Nat):Int)) rfl rfl (by omega) (by omega))<|wm<|wn rfl<|wF 1 u42 rfl ty40 rfl<|wl ty40 rfl (((hwc.step hs.clear (by simp)).cell (j:=1) rfl))<|wn rfl<|wF 3 u54 rfl ty52 rfl<|wl ty52 rfl (((hrc.step hs.clear (by simp)).cell (j:=3) rfl))<|wV (run_lenSl u52 rfl)<|wV (run_bF (run_lss rfl rfl) (by omega))<|wZ ?_
 refine CW.cond rfl (fun h=>?_) (fun h=>?_)
 ·cases h
 refine ck<|sr<|wV (run_build rfl (bld_d123 _))<|WL.storeAll ty44 rfl rfl ((hdl)) ((Cells1.u8s _)) hs (by rfl) (fun w hs=>?_)
 refine wZ<|CW.ret ?_
 refine fin_cell1 rfl rfl (run_loadVarN ty44 (by rfl) hs.a0) ?_
 exact⟨rfl,hs.clear⟩
end
structure Stup where
 cap:Int
 vT:Value
 T:List (Value×List It)
 vN:Value
 N:List (Value×List Ent)
 vB:Value
 B:BL
 vE:Value
 E:List Int
 vP:Value
 P:List (Int×Value×List UInt8)
def Stup.cells (x:Stup):List Value:=[.int .i64 x.cap,x.vT,x.vN,x.vB,x.vE,x.vP]
def plC (t:Int×Value×List UInt8):List Value:=[.int .i64 t.1,t.2.1]
structure Stup.Ok (w:World) (x:Stup):Prop where
 cap : -9223372036854775808≤x.cap∧x.cap≤9223372036854775807
 sT:Sl w 1 x.vT x.T.length (x.T.map (·.1))
 T:∀t∈x.T,Its w t.1 t.2∧Room t.1∧∀y∈t.2,y.p.length<4294967281
 sN:Sl w 1 x.vN x.N.length (x.N.map (·.1))
 N:∀t∈x.N,Es w t.1 t.2∧Room t.1
 sB:Sl w 1 x.vB x.B.length (x.B.map (·.1))
 B:∀t∈x.B,Sl w 1 t.1 t.2.length (u8s t.2)∧Room t.1
 sE:Sl w 1 x.vE x.E.length (x.E.map fun z=>.int .i64 z)
 E:∀z∈x.E,-9223372036854775808≤z∧z≤9223372036854775807
 sP:Sl w 2 x.vP x.P.length (x.P.flatMap plC)
 P:∀t∈x.P,(-9223372036854775808≤t.1∧t.1≤9223372036854775807)∧Sl w 1 t.2.1 t.2.2.length (u8s t.2.2)∧Room t.2.1
theorem sl_at1{α:Type}{c:α→Value}{w:World}{v:Value}{l:List α} (h:Sl w 1 v l.length (l.map c)){i:Nat}{t:α} (ht:l[i]?=some t):∃b off cc,v=.slice (some ⟨b,off,none⟩) l.length cc∧w.cell? ⟨b,off+i*1,none⟩=some (c t):=by
 obtain⟨_,⟨a,cc,rfl,h0⟩ | ⟨b,off,cc,rfl,ha⟩⟩:=h
 ·rw[List.eq_nil_of_length_eq_zero h0] at ht;simp at ht
 ·refine⟨b,off,cc,rfl,ha.cell (j:=i*1) ?_⟩
  rw[Nat.mul_one,List.getElem?_map,ht];rfl
theorem plC_at:∀{l:List (Int×Value×List UInt8)}{w:World}{b off:Nat},At w b off (l.flatMap plC)→∀{i:Nat}{t:Int×Value×List UInt8},l[i]?=some t→At w b (off+i*2) (plC t)
 | [],w,b,off,_,i,d,h=>by simp at h
 | x::l,w,b,off,ha,0,d,h=>by
  rw[List.getElem?_cons_zero] at h
  obtain rfl:=Option.some.inj h
  rw[Nat.zero_mul,Nat.add_zero]
  rw[List.flatMap_cons] at ha
  exact ha.left
 | x::l,w,b,off,ha,i+1,d,h=>by
  rw[List.flatMap_cons] at ha
  have h2:=ha.right
  have h3:=plC_at (l:=l) h2 (i:=i) (t:=d) h
  rw[show off+(i+1)*2=off+(plC x).length+i*2 by show off+(i+1)*2=off+2+i*2;omega]
  exact h3
theorem sl_atP{w:World}{v:Value}{l:List (Int×Value×List UInt8)} (h:Sl w 2 v l.length (l.flatMap plC)){i:Nat}{t:Int×Value×List UInt8} (ht:l[i]?=some t):∃b off cc,v=.slice (some ⟨b,off,none⟩) l.length cc∧At w b (off+i*2) (plC t):=by
 obtain⟨_,⟨a,cc,rfl,h0⟩ | ⟨b,off,cc,rfl,ha⟩⟩:=h
 ·rw[List.eq_nil_of_length_eq_zero h0] at ht;simp at ht
 ·exact⟨b,off,cc,rfl,plC_at ha ht⟩
theorem keep1{S:List Nat}{L:List (Nat×Obj)}{w w':World}{b o:Nat}{v:Value} (h:w.cell? ⟨b,o,none⟩=some v) (hs:Step [] L w w'):w'.cell? ⟨b,o,none⟩=some v:=keepCell h hs
def MI (bw bp br k:Nat) (G:List (Nat×Obj)) (w0:World) (n m:Nat) (w:World):Prop:=∃s roots vR LR L R D,MX bw bp br G w0 s roots vR LR L R D w∧s.Few n∧s.k=k∧roots.length≤m
section
variable{bw bp br k n m:Nat}{G A:List (Nat×Obj)}{w0 w w':World}{v:Value}{y:List UInt8}
theorem MI.get{p:Nat×Obj} (h:MI bw bp br k G w0 n m w) (hp:p∈G):w.heap[p.1]?=some p.2:=by
 obtain⟨s,roots,vR,LR,L,R,D,hM,_⟩:=h
 exact hM.get hp
theorem MI.base (h:MI bw bp br k G w0 n m w):Step [] [] w0 w:=by
 obtain⟨s,roots,vR,LR,L,R,D,hM,_⟩:=h
 exact hM.hs.clear
theorem MI.mono {n' m':Nat} (h:MI bw bp br k G w0 n m w) (hn:n≤n') (hm:m≤m'):MI bw bp br k G w0 n' m' w:=by
 obtain⟨s,roots,vR,LR,L,R,D,hM,h1,h2,h3⟩:=h
 exact⟨s,roots,vR,LR,L,R,D,hM,h1.mono hn,h2,by omega⟩
theorem MI.drop (h:MI bw bp br k (A++G) w0 n m w):MI bw bp br k G w0 n m w:=by
 obtain⟨s,roots,vR,LR,L,R,D,hM,h1⟩:=h
 exact⟨s,roots,vR,LR,L,R,D,hM.drop,h1⟩
theorem MI.add (h:MI bw bp br k G w0 n m w) (hq:Step [] A w w'):MI bw bp br k (A++G) w0 n m w':=by
 obtain⟨s,roots,vR,LR,L,R,D,hM,h1⟩:=h
 exact⟨s,roots,vR,LR,L,R,D,hM.add hq,h1⟩
theorem MI.put (h:MI bw bp br k G w0 n m w) (hn:n<1000000000) (hv:Src G w0 v y) (hr:Room v) (hy:y.length<1099511627776) :
  Calls Tryz.prog 60 #[.pointer (some ⟨bw,0,none⟩),v] w fun e w'=>e=.returned (.bool true)∧MI bw bp br k G w0 (n+1) m w':=by
 obtain⟨s,roots,vR,LR,L,R,D,hM,few,hk,hl⟩:=h
 refine(hM.put few hn hv hr hy).mono ?_
 rintro e w' ⟨he,L',R',D',h2⟩
 exact⟨he,_,roots,vR,LR,L',R',D',h2,few.put y,by rw[put_k];exact hk,hl⟩
end
theorem bld_w8 (a b:Option Addr) (w:World):(Instr.build 42 #[(0,.pointer a),(1,.pointer b)]).run Tryz.prog w=.ok (.agg #[.pointer a,.pointer b,.slice none 0 0]) w:=by kernel_rfl
section
variable{S:List Nat}{A B C D E F G X Y LR:List (Nat×Obj)}{a b c:Nat×Obj}{w w':World}
theorem Step.in3 (h:Step S (a::b::c::(A++X)) w w'):Step S (A++(a::b::c::X)) w w':=h.perm (List.perm_append_comm_assoc [a,b,c] A X)
theorem Step.out3 (h:Step S (A++(a::b::c::X)) w w'):Step S (b::c::(A++X)) w w':=Step.tail (p:=a) (h.perm (List.perm_append_comm_assoc A [a,b,c] X))
theorem Step.s1 (h:Step S (a::(Y++(b::(LR++X)))) w w'):Step S (a::b::(LR++(Y++X))) w w':=h.perm (by classical exact List.perm_iff_count.2 fun x=>by simp only[List.count_append,List.count_cons];omega)
theorem Step.s2 (h:Step S (a::b::(LR++(Y++X))) w w'):Step S (Y++(b::(LR++X))) w w':=Step.tail (p:=a) (h.perm (by classical exact List.perm_iff_count.2 fun x=>by simp only[List.count_append,List.count_cons];omega))
theorem Step.s4 (h:Step S (Y++(b::(LR++X))) w w'):Step S (b::(LR++(Y++X))) w w':=h.perm (by classical exact List.perm_iff_count.2 fun x=>by simp only[List.count_append,List.count_cons];omega)
theorem Step.s5 (h:Step S (b::(LR++(Y++X))) w w'):Step S (Y++(b::(LR++X))) w w':=h.perm (by classical exact List.perm_iff_count.2 fun x=>by simp only[List.count_append,List.count_cons];omega)
theorem Step.out2b (h:Step S (A++(a::b::X)) w w'):Step S (b::(A++X)) w w':=Step.tail (p:=a) (h.perm (List.perm_append_comm_assoc A [a,b] X))
end
theorem made8_bad{k c:Int} (h:(k<1∨32<k)∨¬(0≤c∧c≤67108864)){x:Stup} (hx:x.cap=c) (w0:World):Calls Tryz.prog 16 #[.int .i64 k,.agg x.cells.toArray] w0 (Ret0 (.tuple #[.pointer none,.bool true]) w0):=by
 have hs:Step [] [] w0 w0:=Step.refl w0
 obtain⟨er,h1,h2⟩:∃er:Nat,(∀w,Calls Tryz.prog 56 #[.int .i64 k,.int .i64 c] w (Ret0 (.tuple #[.pointer none,.int .i64 (er:Nat)]) w))∧(∀w,Calls Tryz.prog 58 #[.int .i64 k,.int .i64 c] w (Ret0 (.tuple #[.pointer none,.int .i64 (er:Nat)]) w)):=by
  by_cases hk:k<1∨32<k
  ·exact⟨3,fun w=>new_width hk w,fun w=>rnew_width hk w⟩
  ·have hc:¬(0≤c∧c≤67108864):=by omega
   have ob:∃m:Nat,k=m:=⟨k.toNat,by omega⟩
   obtain⟨m,rfl⟩:=ob
   exact⟨1,fun w=>new_arg (by omega) (by omega) hc w,fun w=>rnew_arg (by omega) (by omega) hc w⟩
 subst hx
 refine calls (n:=288) Tryz.func16 rfl rfl rfl ?_
 refine sr<|WL.box (cs:=x.cells) rfl rfl rfl hs (fun b3 w hs=>?_)
 refine wA<|wA<|wZ<|sr<|wm<|wF 0 u28 rfl ty3 rfl<|wl ty3 rfl (hs.c0 (v:=.int .i64 x.cap) rfl)<|wE rfl (run_call en56 rfl rfl) (h1 _) ?_
 rintro e w ⟨rfl,hq⟩
 refine⟨_,rfl,?_⟩
 replace hs:=hs.callE hq
 refine wm<|wx rfl rfl<|wx rfl rfl<|wA<|wA<|wZ<|sr<|wm<|wF 0 u28 rfl ty3 rfl<|wl ty3 rfl (hs.c0 (v:=.int .i64 x.cap) rfl)<|wE rfl (run_call en58 rfl rfl) (h2 _) ?_
 rintro e w ⟨rfl,hq⟩
 refine⟨_,rfl,?_⟩
 replace hs:=hs.callE hq
 refine wm<|wx rfl rfl<|wx rfl rfl<|wA<|wA<|wZ<|cq<|sr<|wm<|wm<|wV (run_bF (run_neq rfl rfl) (by exact fun h=>h rfl))<|wm<|wy<|wm ?_
 refine wy<|wV (run_nilNil u39 rfl rfl)<|wy<|wm<|wy<|wV (run_nilNil u40 rfl rfl)<|wy<|wV (run_neqB u4 rfl rfl)<|wV (run_pickF rfl)<|wZ<|CW.cond rfl (fun h3=>?_) (fun h3=>?_)
 ·cases h3
 refine ck<|cq<|sr<|wm<|wV (run_nilNil u39 rfl rfl)<|wZ<|CW.cond rfl (fun h4=>?_) (fun h4=>?_)
 ·refine sr<|wA<|wA<|wZ<|CW.ret ?_
  refine fin_ret2 rfl ?_
  exact⟨rfl,hs.clear⟩
 ·cases h4
theorem sl_form{w:World}{sz n:Nat}{v:Value}{cs:List Value} (h:Sl w sz v n cs):∃a c,v=.slice a n c:=by
 obtain⟨_,⟨a,c,rfl,h0⟩ | ⟨b,off,c,rfl,_⟩⟩:=h
 ·exact⟨a,c,by rw[h0]⟩
 ·exact⟨_,c,rfl⟩
theorem mem_y{b p:Nat×Obj}{LR Y Z:List (Nat×Obj)} (h:p∈Y):p∈b::(LR++(Y++Z)):=by simp[h]
theorem xcell{x:Stup}{w:World}{b3:Nat} (h:w.heap[b3]?=some (blk 28 x.cells)){j:Nat}{v:Value} (hj:x.cells[j]?=some v):w.cell? ⟨b3,0+j,none⟩=some v:=(At.of_blk h).cell hj
set_option maxHeartbeats 64000000 in
theorem made8_spec{k c:Nat} (hk1:1≤k) (hk:k≤32) (hc:c≤67108864){x:Stup} (hxc:x.cap=c) (w0:World) (hx:x.Ok w0):Calls Tryz.prog 16 #[.int .i64 (k:Nat),.agg x.cells.toArray] w0 fun e w'=>∃bw bp br,e=.returned (.tuple #[.pointer (some ⟨bw,0,none⟩),.bool true])∧MI bw bp br k [] w0 100000000 400 w':=by
 have hs:Step [] [] w0 w0:=Step.refl w0
 have ob:=sl_form hx.sT
 obtain⟨Ta,Tc,hvT⟩:=ob
 have ob:=sl_form hx.sN
 obtain⟨Na,Nc,hvN⟩:=ob
 have ob:=sl_form hx.sB
 obtain⟨Ba,Bc,hvB⟩:=ob
 have ob:=sl_form hx.sE
 obtain⟨Ea,Ec,hvE⟩:=ob
 have ob:=sl_form hx.sP
 obtain⟨Pa,Pc,hvP⟩:=ob
 have hT1:x.cells[1]?=some (.slice Ta x.T.length Tc):=by rw[←hvT];rfl
 have hN2:x.cells[2]?=some (.slice Na x.N.length Nc):=by rw[←hvN];rfl
 have hB3:x.cells[3]?=some (.slice Ba x.B.length Bc):=by rw[←hvB];rfl
 have hE4:x.cells[4]?=some (.slice Ea x.E.length Ec):=by rw[←hvE];rfl
 have hP5:x.cells[5]?=some (.slice Pa x.P.length Pc):=by rw[←hvP];rfl
 have hsT:=hx.sT
 have hsN:=hx.sN
 have hsB:=hx.sB
 have hsE:=hx.sE
 have hsP:=hx.sP
 rw[hvT] at hsT
 rw[hvN] at hsN
 rw[hvB] at hsB
 rw[hvE] at hsE
 rw[hvP] at hsP
 refine calls (n:=288) Tryz.func16 rfl rfl rfl ?_
 refine sr<|WL.box (cs:=x.cells) rfl rfl rfl hs (fun b3 w hs=>?_)
 refine wA<|wA<|wZ<|sr<|wm<|wF 0 u28 rfl ty3 rfl<|wl ty3 rfl (hs.c0 (v:=.int .i64 (c:Nat)) (by show some (Value.int .i64 x.cap)=_;rw[hxc]))<|wE rfl (run_call en56 rfl rfl) (new_abs hk1 hk hc _) ?_
 rintro e w ⟨bp,L0,rfl,hP0,hq⟩
 refine⟨_,rfl,?_⟩
 replace hs:=Step.append_comm (L1:=L0) (L2:=[_]) (Step.call0 hs hq)
 refine wm<|wx rfl rfl<|wx rfl rfl<|wA<|wA<|wZ<|sr<|wm<|wF 0 u28 rfl ty3 rfl<|wl ty3 rfl (hs.c0 (v:=.int .i64 (c:Nat)) (by show some (Value.int .i64 x.cap)=_;rw[hxc]))<|wE rfl (run_call en58 rfl rfl) (rnew_abs hk1 hk hc _) ?_
 rintro e w ⟨br,R0,rfl,hR0,hq⟩
 refine⟨_,rfl,?_⟩
 replace hs:=Step.q5 (Step.call0 hs hq)
 refine wm<|wx rfl rfl<|wx rfl rfl<|wA<|wA<|wZ<|cq<|sr<|wm<|wm<|wV (run_bF (run_neq rfl rfl) (by decide))<|wm<|wy<|wm ?_
 refine wy<|wV (run_ptrNil u39 rfl rfl)<|wy<|wm<|wy<|wV (run_ptrNil u40 rfl rfl)<|wy<|wV (run_neqB u4 rfl rfl)<|wV (run_pickF rfl)<|wZ<|CW.cond rfl (fun h=>?_) (fun h=>?_)
 ·cases h
 refine ck<|cq<|sr<|wm<|wV (run_ptrNil u39 rfl rfl)<|wZ<|CW.cond rfl (fun h2=>?_) (fun h2=>?_)
 ·cases h2
 refine ck<|sr<|wm<|wm<|wV (run_build rfl ((bld_w8 _ _ _)))<|WL.box (cs:=w8C bp br (.slice none 0 0)) rfl rfl rfl hs (fun b53 w hs=>?_)
 refine wA<|wZ ?_
 have hXm:(b3,blk 28 x.cells)∈[(b3,blk 28 x.cells)]:=List.mem_singleton.2 rfl
 have hMI:MI b53 bp br k [(b3,blk 28 x.cells)] w0 0 0 w:=⟨newS k c,[],_,[],L0,R0,[],⟨hP0,hR0,newS_ok hk1 hk hc,OwnSl.nil _ _,(fun d hd=>by cases hd),by
  have h:=hs.swap.perm (L':=[(b3,blk 28 x.cells)]++((b53,blk 42 (w8C bp br (.slice none 0 0)))::([]++(L0++(R0++[]))))) (by
   have e:[(b3,blk 28 x.cells)]++((b53,blk 42 (w8C bp br (.slice none 0 0)))::([]++(L0++(R0++[]))))=(b3,blk 28 x.cells)::(b53,blk 42 (w8C bp br (.slice none 0 0)))::(L0++R0):=by simp
   rw[e]
   exact(List.perm_append_comm.cons _).cons _)
  exact h⟩,newS_few,rfl,Nat.le_refl _⟩
 clear hs
 refine CW.seqM (fun f w=>MI b53 bp br k [(b3,blk 28 x.cells)] w0 40000000 200 w∧Holds f [(0,.int .i64 (k:Nat)),(3,.pointer (some ⟨b3,0,none⟩)),(6,.pointer (some ⟨bp,0,none⟩)),(8,.pointer (some ⟨br,0,none⟩)),(10,.pointer (some ⟨b53,0,none⟩))]) ?_ ?_
 ·refine sr<|wA<|wZ<|cB<|CW.loop (fun z f w'=>∃i,i≤200∧i≤x.T.length∧z=200 - i∧MI b53 bp br k [(b3,blk 28 x.cells)] w0 (i*200000) i w'∧Holds f [(0,.int .i64 (k:Nat)),(3,.pointer (some ⟨b3,0,none⟩)),(6,.pointer (some ⟨bp,0,none⟩)),(8,.pointer (some ⟨br,0,none⟩)),(10,.pointer (some ⟨b53,0,none⟩)),(11,.int .i64 (i:Nat))]) (m:=200) ?_ ?_
  ·exact⟨0,by omega,Nat.zero_le _,rfl,hMI,rfl,rfl,rfl,rfl,rfl,rfl,trivial⟩
  clear hMI
  rintro z f w ⟨i,hi2,hiT,rfl,hMI,hf⟩
  have ob:=hf.chain
  obtain⟨g,rfl⟩:=ob
  by_cases hlt:i<x.T.length
  ·by_cases h200:i<200
   ·have ob:∃t,x.T[i]?=some t:=⟨_,List.getElem?_eq_getElem hlt⟩
    obtain⟨t,ht⟩:=ob
    have ob:=hx.T t (List.mem_of_getElem? ht)
    obtain⟨hIt,hIr,hIp⟩:=ob
    have ob:=sl_at1 (c:=fun t:Value×List It=>t.1) hsT ht
    obtain⟨tb,to,tc,hte,htc⟩:=ob
    cases hte
    have hXc:=fun{w:World} h=>xcell (x:=x) (w:=w) (b3:=b3) h hT1
    refine cq<|sr<|wm<|wF 1 u28 rfl ty22 rfl<|wl ty22 rfl (hXc (hMI.get hXm))<|wV (run_lenSl u22 rfl)<|wV (run_bT (run_lss rfl rfl) (by omega))<|wm<|wy<|wm<|wy<|wV (run_bT (run_lss rfl rfl) (by omega))<|wV (run_pickT rfl)<|wZ ?_
    refine CW.cond rfl (fun h=>?_) (fun h=>?_)
    ·refine ck<|cq<|cB<|sr<|wm<|wF 1 u28 rfl ty22 rfl<|wl ty22 rfl (hXc (hMI.get hXm))<|wm<|wV (run_ixSlN u22 ty65 rfl rfl (by omega))<|wl ty65 rfl (keep1 (S:=[]) htc hMI.base)<|wE rfl (run_call en59 rfl rfl) (build_spec hk1 hk _ (hIt.step0 hMI.base) hIp hIr) ?_
     rintro e w ⟨d,vB,LB,B,D1,er,rfl,hd32,hB,hBo,hBl,hq⟩
     refine⟨_,rfl,?_⟩
     replace hMI:=MI.add hMI hq
     obtain⟨s,roots,vR,LR,L,R,D,hM,few,hsk,hrl⟩:=hMI
     have hs:=hM.hs
     have hdl:(u8s d).length=32:=by rw[u8s,List.length_map,hd32]
     refine wm<|wx rfl rfl<|wx rfl rfl<|wx rfl rfl<|WL.alloc ty44 rfl hs (fun b12 w hs=>?_)
     refine WL.storeAll ty44 rfl rfl ((hdl)) ((Cells1.u8s _)) hs (by rfl) (fun w hs=>?_)
     refine wA<|wA<|wZ ?_
     have hM1:MX b53 bp br ((LB++D1)++[(b3,blk 28 x.cells)]) w0 s roots vR LR L R D w:=⟨hM.pr,hM.rr,hM.ok,hM.vr,hM.r32,hs.tail⟩
     have ob:=hB.form
     obtain⟨vBa,vBc,rfl⟩:=ob
     by_cases her:er≠0
     ·refine cq<|sr<|wm<|wV (run_bT (run_neq rfl rfl) (by exact her))<|wZ<|CW.cond rfl (fun h=>?_) (fun h=>?_)
      ·refine CW.exit<|cr<|wm<|wV (run_add (c:=((i+1:Nat):Int)) rfl rfl (by omega) (by omega))<|wA<|wZ<|(show _∧_ from⟨rfl,_,?_,i+1,h200,hlt,rfl,⟨s,roots,vR,LR,L,R,D,hM1.drop,few.mono (by omega),hsk,by omega⟩,rfl,rfl,rfl,rfl,rfl,rfl,trivial⟩)
       omega
      ·cases h
     refine cq<|sr<|wm<|wV (run_bF (run_neq rfl rfl) (by exact her))<|wZ<|CW.cond rfl (fun h=>?_) (fun h=>?_)
     ·cases h
     replace hs:=Step.s1 hs
     have hvr:=hM.vr
     have ob:=hvr.form
     obtain⟨ra,rc,rfl⟩:=ob
     refine ck<|cq<|CW.any (A:=fun w=>Step [] [(b12,blk 44 (u8s d))] w0 w) (C:=fun w=>Step [] [(b12,blk 44 (u8s d)),(b53,blk 42 (w8C bp br (.slice ra roots.length rc)))] w0 w) 10 11 mixedP rfl ?_
     replace hs:=hs.drew
     refine aM 0 rfl<|aM 1 rfl<|aV 2 rfl (fun w hs=>run_nilCheck rfl)<|aV 3 rfl (fun w hs=>run_field (o':=2) u42 rfl ty35 rfl rfl rfl)<|aV 4 rfl (fun w hs=>run_load1 ty35 rfl (hs.c1 rfl))<|aV 5 rfl (fun w hs=>run_loadN ty44 rfl hdl hs.a0)<|AL.one 6 (by kernel_rfl) rfl (by exact Step.dropR (L1:=[(b12,_)]) hs) (by exact Step.dropR (L1:=[_,_]) hs) ?_
     refine WL.buildSlice (cs:=u8s d) u35 ty44 rfl (by decide) rfl (filled1 hdl rfl) rfl hs (fun b84 w hs=>?_)
     have hsl84:Sl w 32 (.slice (some ⟨b84,0,none⟩) 1 1) 1 (u8s d):=.own1 hs (by rw[hdl])
     replace hs:=Step.in3 hs
     refine wZ<|⟨rfl,?_⟩
     refine AL.one 7 (by kernel_rfl) rfl (by exact Step.dropR (L1:=[(b12,_)]) (hs.dropL (L1:=LR)).tail) (by exact Step.dropR (L1:=[_,_]) (hs.dropL (L1:=LR)).tail) ?_
     refine WL.append u35 u35 ty44 rfl (by decide) rfl rfl (hvr) (hs) (hsl84) (Cells1.u8s _) (by omega) rfl (fun v85 Lv85 w hv85 hs=>?_)
     replace hs:=Step.out3 hs
     refine wZ<|⟨rfl,?_⟩
     refine AL.valA 8 rfl (by kernel_rfl) rfl (fun w hs=>run_nilCheck rfl) ?_
     refine aV 9 rfl (fun w hs=>run_field (o':=2) u42 rfl ty35 rfl rfl rfl)<|AL.one 10 (by kernel_rfl) rfl (by exact Step.dropR (L1:=[(b12,_)]) hs) (by exact Step.dropR (L1:=[_,_]) hs) ?_
     refine ws1 ty35 rfl rfl (hv85.one) (hs.swap) (fun w hs=>?_)
     refine wZ<|⟨rfl,?_⟩
     refine AL.relax (by kernel_rfl) ?_
     refine AL.end (by kernel_rfl) (by exact Step.dropR (L1:=[(b12,_)]) hs.tail) (trivial) ?_
     replace hs:Step [] ((b12,blk 44 (u8s d))::(b53,blk 42 (w8C bp br v85))::(Lv85++(((LB++D1)++[(b3,blk 28 x.cells)])++(L++(R++D))))) w0 w:=hs.swap
     have hM3:MX b53 bp br ((LB++D1)++[(b3,blk 28 x.cells)]) w0 s (roots++[d]) v85 Lv85 L R D w:=⟨hM.pr,hM.rr,hM.ok,by rw[List.length_append,digsL_snoc];exact hv85,fun e he=>(List.mem_append.1 he).elim (hM.r32 e) fun he=>by obtain rfl:=List.mem_singleton.1 he;exact hd32,Step.s2 hs⟩
     have hMI:MI b53 bp br k ((LB++D1)++[(b3,blk 28 x.cells)]) w0 (i*200000+0) (i+1) w:=⟨s,_,_,_,L,R,D,hM3,few.mono (by omega),hsk,by rw[List.length_append,List.length_singleton];omega⟩
     clear hs
     refine sr<|wA<|wZ<|cB<|CW.loop (fun z f w'=>∃q,q≤B.length∧z=B.length - q∧MI b53 bp br k ((LB++D1)++[(b3,blk 28 x.cells)]) w0 (i*200000+q) (i+1) w'∧Holds f [(0,.int .i64 (k:Nat)),(3,.pointer (some ⟨b3,0,none⟩)),(6,.pointer (some ⟨bp,0,none⟩)),(8,.pointer (some ⟨br,0,none⟩)),(10,.pointer (some ⟨b53,0,none⟩)),(11,.int .i64 (i:Nat)),(13,.slice vBa B.length vBc),(15,.int .i64 (q:Nat))]) (m:=B.length) ?_ ?_
     ·exact⟨0,Nat.zero_le _,rfl,hMI,rfl,rfl,rfl,rfl,rfl,rfl,rfl,rfl,trivial⟩
     clear hMI
     rintro z f w ⟨q,hq,rfl,hMI,hf⟩
     have ob:=hf.chain
     obtain⟨g,rfl⟩:=ob
     by_cases hql:q<B.length
     ·have ob:∃u,B[q]?=some u:=⟨_,List.getElem?_eq_getElem hql⟩
      obtain⟨u,hu⟩:=ob
      have huo:=hBo u (List.mem_of_getElem? hu)
      have ob:=At.ownSl hB (w:=w) (fun p hp=>hMI.get (by simp[hp])) (by omega)
      obtain⟨ub,uc,hue,hua⟩:=ob
      cases hue
      refine cq<|sr<|wm<|wm<|wV (run_lenSl u24 rfl)<|wV (run_bT (run_lss rfl rfl) (by omega))<|wZ<|CW.cond rfl (fun h=>?_) (fun h=>?_)
      ·refine ck<|cq<|cB<|sr<|wm<|wm<|wm<|wV (run_ixSlN u24 ty76 rfl rfl (by omega))<|wl ty76 rfl (cellsB_at hua hu)<|wE rfl (run_call en60 rfl rfl) (MI.put hMI (by omega) (.inr (huo.1.mono fun p hp=>by simp[hp])) huo.1.room (by omega)) ?_
       rintro e w ⟨rfl,hMI2⟩
       refine⟨_,rfl,?_⟩
       refine wV (run_not rfl)<|wZ<|CW.cond rfl (fun h=>?_) (fun h=>?_)
       ·cases h
       refine ck<|cr<|wm<|wV (run_add (c:=((q+1:Nat):Int)) rfl rfl (by omega) (by omega))<|wA<|wZ<|(show _∧_ from⟨rfl,_,?_,q+1,hql,rfl,hMI2.mono (by omega) (Nat.le_refl _),rfl,rfl,rfl,rfl,rfl,rfl,rfl,rfl,trivial⟩)
       omega
      ·cases h
     ·refine cq<|sr<|wm<|wm<|wV (run_lenSl u24 rfl)<|wV (run_bF (run_lss rfl rfl) (by omega))<|wZ<|CW.cond rfl (fun h=>?_) (fun h=>?_)
      ·cases h
      refine CW.exit<|cr<|wm<|wV (run_add (c:=((i+1:Nat):Int)) rfl rfl (by omega) (by omega))<|wA<|wZ<|(show _∧_ from⟨rfl,_,?_,i+1,h200,hlt,rfl,(MI.drop hMI).mono (by omega) (Nat.le_refl _),rfl,rfl,rfl,rfl,rfl,rfl,trivial⟩)
      omega
    ·cases h
   ·have hXc:=fun{w:World} h=>xcell (x:=x) (w:=w) (b3:=b3) h hT1
    refine cq<|sr<|wm<|wF 1 u28 rfl ty22 rfl<|wl ty22 rfl (hXc (hMI.get hXm))<|wV (run_lenSl u22 rfl)<|wV (run_bT (run_lss rfl rfl) (by omega))<|wm<|wy<|wm<|wy<|wV (run_bF (run_lss rfl rfl) (by omega))<|wV (run_pickT rfl)<|wZ ?_
    refine CW.cond rfl (fun h=>?_) (fun h=>?_)
    ·cases h
    refine CW.exit ?_
    exact⟨rfl,hMI.mono (by omega) hi2,rfl,rfl,rfl,rfl,rfl,trivial⟩
  ·have hXc:=fun{w:World} h=>xcell (x:=x) (w:=w) (b3:=b3) h hT1
   refine cq<|sr<|wm<|wF 1 u28 rfl ty22 rfl<|wl ty22 rfl (hXc (hMI.get hXm))<|wV (run_lenSl u22 rfl)<|wV (run_bF (run_lss rfl rfl) (by omega))<|wm<|wz<|wz<|wV (run_pickF rfl)<|wZ<|CW.cond rfl (fun h=>?_) (fun h=>?_)
   ·cases h
   refine CW.exit ?_
   exact⟨rfl,hMI.mono (by omega) hi2,rfl,rfl,rfl,rfl,rfl,trivial⟩
 clear hMI
 rintro f w ⟨hMI,hf⟩
 replace hMI:MI b53 bp br k [(b3,blk 28 x.cells)] w0 (40000000+0) (200+0) w:=hMI.mono (by omega) (by omega)
 have ob:=hf.chain
 obtain⟨g,rfl⟩:=ob
 refine CW.seqM (fun f w=>MI b53 bp br k [(b3,blk 28 x.cells)] w0 40000200 400 w∧Holds f [(0,.int .i64 (k:Nat)),(3,.pointer (some ⟨b3,0,none⟩)),(6,.pointer (some ⟨bp,0,none⟩)),(8,.pointer (some ⟨br,0,none⟩)),(10,.pointer (some ⟨b53,0,none⟩))]) ?_ ?_
 ·refine sr<|wA<|wZ<|cB<|CW.loop (fun z f w'=>∃i,i≤200∧i≤x.N.length∧z=200 - i∧MI b53 bp br k [(b3,blk 28 x.cells)] w0 (40000000+i) (200+i) w'∧Holds f [(0,.int .i64 (k:Nat)),(3,.pointer (some ⟨b3,0,none⟩)),(6,.pointer (some ⟨bp,0,none⟩)),(8,.pointer (some ⟨br,0,none⟩)),(10,.pointer (some ⟨b53,0,none⟩)),(16,.int .i64 (i:Nat))]) (m:=200) ?_ ?_
  ·exact⟨0,by omega,Nat.zero_le _,rfl,hMI,rfl,rfl,rfl,rfl,rfl,rfl,trivial⟩
  clear hMI
  rintro z f w ⟨i,hi2,hiT,rfl,hMI,hf⟩
  have ob:=hf.chain
  obtain⟨g,rfl⟩:=ob
  have hXc:=fun{w:World} h=>xcell (x:=x) (w:=w) (b3:=b3) h hN2
  by_cases hlt:i<x.N.length
  ·by_cases h200:i<200
   ·have ob:∃t,x.N[i]?=some t:=⟨_,List.getElem?_eq_getElem hlt⟩
    obtain⟨t,ht⟩:=ob
    have ob:=hx.N t (List.mem_of_getElem? ht)
    obtain⟨hEs,hEr⟩:=ob
    have ob:=sl_at1 (c:=fun t:Value×List Ent=>t.1) hsN ht
    obtain⟨tb,to,tc,hte,htc⟩:=ob
    cases hte
    refine cq<|sr<|wm<|wF 2 u28 rfl ty23 rfl<|wl ty23 rfl (hXc (hMI.get hXm))<|wV (run_lenSl u23 rfl)<|wV (run_bT (run_lss rfl rfl) (by omega))<|wm<|wy<|wm<|wy<|wV (run_bT (run_lss rfl rfl) (by omega))<|wV (run_pickT rfl)<|wZ ?_
    refine CW.cond rfl (fun h=>?_) (fun h=>?_)
    ·refine ck<|cq<|cB<|sr<|wF 2 u28 rfl ty23 rfl<|wl ty23 rfl (hXc (hMI.get hXm))<|wm<|wV (run_ixSlN u23 ty116 rfl rfl (by omega))<|wl ty116 rfl (keep1 (S:=[]) htc hMI.base)<|wE rfl (run_call en57 rfl rfl) (encS_spec _ (hEs.step0 hMI.base) hEr) ?_
     rintro e w ⟨v17,y,L17,er,rfl,_,_,hv17,hyl,hq⟩
     refine⟨_,rfl,?_⟩
     replace hMI:=MI.add hMI hq
     refine wm<|wx rfl rfl<|wx rfl rfl<|wA<|wA<|wZ ?_
     have ob:=hv17.form
     obtain⟨ya,yc,rfl⟩:=ob
     by_cases her:er≠0
     ·refine cq<|sr<|wm<|wV (run_bT (run_neq rfl rfl) (by exact her))<|wZ<|CW.cond rfl (fun h=>?_) (fun h=>?_)
      ·refine CW.exit<|cr<|wm<|wV (run_add (c:=((i+1:Nat):Int)) rfl rfl (by omega) (by omega))<|wA<|wZ<|(show _∧_ from⟨rfl,_,?_,i+1,h200,hlt,rfl,(MI.drop hMI).mono (by omega) (by omega),rfl,rfl,rfl,rfl,rfl,rfl,trivial⟩)
       omega
      ·cases h
     refine cq<|sr<|wm<|wV (run_bF (run_neq rfl rfl) (by exact her))<|wZ<|CW.cond rfl (fun h=>?_) (fun h=>?_)
     ·cases h
     obtain⟨s,roots,vR,LR,L,R,D,hM,few,hsk,hrl⟩:=hMI
     have hHy:Held (L17++[(b3,blk 28 x.cells)]) (.slice ya y.length yc) y:=⟨L17,hv17,fun p hp=>List.mem_append_left _ hp⟩
     have hs:=hM.hs
     have hvr:=hM.vr
     have ob:=hvr.form
     obtain⟨ra,rc,rfl⟩:=ob
     have hfr:=frontL_len (x:=y) hk
     have hof:=fun{w:World}{X:List (Nat×Obj)} (h:Step [] X w0 w) (hX:∀p∈L17++[(b3,blk 28 x.cells)],p∈X)=>ofR_spec (y:=y) (v:=.slice ya y.length yc) w (hHy.sl fun p hp=>h.has p (hX p hp)) (by omega) hk1 hk
     have ob:∃d,frontL y k=d:=⟨_,rfl⟩
     obtain⟨d,hdg⟩:=ob
     rw[hdg] at hfr
     simp only[hdg] at hof
     have hdl:(u8s d).length=32:=by rw[u8s,List.length_map,hfr]
     replace hs:Step [] ((b53,blk 42 (w8C bp br (.slice ra roots.length rc)))::(LR++((L17++[(b3,blk 28 x.cells)])++(L++(R++D))))) w0 w:=Step.s4 hs
     refine ck<|cq<|CW.any (A:=fun w=>True) (C:=fun w=>Step [] [(b53,blk 42 (w8C bp br (.slice ra roots.length rc)))] w0 w) 12 13 mixedP rfl ?_
     replace hs:=hs.drew
     refine aM 0 rfl<|aM 1 rfl<|aV 2 rfl (fun w hs=>run_nilCheck rfl)<|aV 3 rfl (fun w hs=>run_field (o':=2) u42 rfl ty35 rfl rfl rfl)<|aV 4 rfl (fun w hs=>run_load1 ty35 rfl (hs.c0 rfl))<|aM 5 rfl<|aM 6 rfl<|AL.one 7 (by kernel_rfl) rfl (trivial) (by exact Step.dropR (L1:=[_]) hs) ?_
     refine wE rfl (run_call en61 rfl rfl) (hof hs (fun p hp=>mem_y hp)) ?_
     rintro e w ⟨rfl,hq⟩
     refine⟨_,rfl,?_⟩
     replace hs:=hs.callE hq
     refine wZ<|⟨rfl,?_⟩
     refine AL.one 8 (by kernel_rfl) rfl (trivial) (by exact Step.dropR (L1:=[_]) hs) ?_
     refine WL.buildSlice (cs:=u8s d) u35 ty44 rfl (by decide) rfl (filled1 hdl rfl) rfl hs (fun b131 w hs=>?_)
     have hsl131:Sl w 32 (.slice (some ⟨b131,0,none⟩) 1 1) 1 (u8s d):=.own1 hs (by rw[hdl])
     replace hs:=Step.in2 hs
     refine wZ<|⟨rfl,?_⟩
     refine AL.one 9 (by kernel_rfl) rfl (trivial) (by exact Step.dropR (L1:=[_]) (hs.dropL (L1:=LR)).tail) ?_
     refine WL.append u35 u35 ty44 rfl (by decide) rfl rfl (hvr) (hs) (hsl131) (Cells1.u8s _) (by omega) rfl (fun v132 Lv132 w hv132 hs=>?_)
     replace hs:=Step.out2b hs
     refine wZ<|⟨rfl,?_⟩
     refine AL.valA 10 rfl (by kernel_rfl) rfl (fun w hs=>run_nilCheck rfl) ?_
     refine aV 11 rfl (fun w hs=>run_field (o':=2) u42 rfl ty35 rfl rfl rfl)<|AL.one 12 (by kernel_rfl) rfl (trivial) (by exact Step.dropR (L1:=[_]) hs) ?_
     refine ws1 ty35 rfl rfl (hv132.one) hs (fun w hs=>?_)
     refine wZ<|⟨rfl,?_⟩
     refine AL.relax (by kernel_rfl) ?_
     refine AL.end (by kernel_rfl) (trivial) (trivial) ?_
     replace hs:Step [] ((b53,blk 42 (w8C bp br v132))::(Lv132++((L17++[(b3,blk 28 x.cells)])++(L++(R++D))))) w0 w:=hs
     have hM3:MX b53 bp br (L17++[(b3,blk 28 x.cells)]) w0 s (roots++[d]) v132 Lv132 L R D w:=⟨hM.pr,hM.rr,hM.ok,by rw[List.length_append,digsL_snoc];exact hv132,fun e he=>(List.mem_append.1 he).elim (hM.r32 e) fun he=>by obtain rfl:=List.mem_singleton.1 he;exact hfr,Step.s5 hs⟩
     have hMI:MI b53 bp br k (L17++[(b3,blk 28 x.cells)]) w0 (40000000+i) (200+(i+1)) w:=⟨s,_,_,_,L,R,D,hM3,few.mono (by omega),hsk,by rw[List.length_append,List.length_singleton];omega⟩
     clear hs
     refine sr<|wm<|wm<|wE rfl (run_call en60 rfl rfl) (MI.put hMI (by omega) (.inr hHy) hHy.room (by omega)) ?_
     rintro e w ⟨rfl,hMI2⟩
     refine⟨_,rfl,?_⟩
     refine wV (run_not rfl)<|wZ<|CW.cond rfl (fun h=>?_) (fun h=>?_)
     ·cases h
     refine ck<|cr<|wm<|wV (run_add (c:=((i+1:Nat):Int)) rfl rfl (by omega) (by omega))<|wA<|wZ<|(show _∧_ from⟨rfl,_,?_,i+1,h200,hlt,rfl,(MI.drop hMI2).mono (by omega) (by omega),rfl,rfl,rfl,rfl,rfl,rfl,trivial⟩)
     omega
    ·cases h
   ·refine cq<|sr<|wm<|wF 2 u28 rfl ty23 rfl<|wl ty23 rfl (hXc (hMI.get hXm))<|wV (run_lenSl u23 rfl)<|wV (run_bT (run_lss rfl rfl) (by omega))<|wm<|wy<|wm<|wy<|wV (run_bF (run_lss rfl rfl) (by omega))<|wV (run_pickT rfl)<|wZ ?_
    refine CW.cond rfl (fun h=>?_) (fun h=>?_)
    ·cases h
    refine CW.exit ?_
    exact⟨rfl,hMI.mono (by omega) (by omega),rfl,rfl,rfl,rfl,rfl,trivial⟩
  ·refine cq<|sr<|wm<|wF 2 u28 rfl ty23 rfl<|wl ty23 rfl (hXc (hMI.get hXm))<|wV (run_lenSl u23 rfl)<|wV (run_bF (run_lss rfl rfl) (by omega))<|wm<|wz<|wz<|wV (run_pickF rfl)<|wZ<|CW.cond rfl (fun h=>?_) (fun h=>?_)
   ·cases h
   refine CW.exit ?_
   exact⟨rfl,hMI.mono (by omega) (by omega),rfl,rfl,rfl,rfl,rfl,trivial⟩
 clear hMI
 rintro f w ⟨hMI,hf⟩
 replace hMI:MI b53 bp br k [(b3,blk 28 x.cells)] w0 (40000200+0) 400 w:=hMI.mono (by omega) (by omega)
 have ob:=hf.chain
 obtain⟨g,rfl⟩:=ob
 refine CW.seqM (fun f w=>MI b53 bp br k [(b3,blk 28 x.cells)] w0 40000400 400 w∧Holds f [(0,.int .i64 (k:Nat)),(3,.pointer (some ⟨b3,0,none⟩)),(6,.pointer (some ⟨bp,0,none⟩)),(8,.pointer (some ⟨br,0,none⟩)),(10,.pointer (some ⟨b53,0,none⟩))]) ?_ ?_
 ·refine sr<|wA<|wZ<|cB<|CW.loop (fun z f w'=>∃i,i≤200∧i≤x.B.length∧z=200 - i∧MI b53 bp br k [(b3,blk 28 x.cells)] w0 (40000200+i) 400 w'∧Holds f [(0,.int .i64 (k:Nat)),(3,.pointer (some ⟨b3,0,none⟩)),(6,.pointer (some ⟨bp,0,none⟩)),(8,.pointer (some ⟨br,0,none⟩)),(10,.pointer (some ⟨b53,0,none⟩)),(19,.int .i64 (i:Nat))]) (m:=200) ?_ ?_
  ·exact⟨0,by omega,Nat.zero_le _,rfl,hMI,rfl,rfl,rfl,rfl,rfl,rfl,trivial⟩
  clear hMI
  rintro z f w ⟨i,hi2,hiT,rfl,hMI,hf⟩
  have ob:=hf.chain
  obtain⟨g,rfl⟩:=ob
  have hXc:=fun{w:World} h=>xcell (x:=x) (w:=w) (b3:=b3) h hB3
  by_cases hlt:i<x.B.length
  ·by_cases h200:i<200
   ·have ob:∃t,x.B[i]?=some t:=⟨_,List.getElem?_eq_getElem hlt⟩
    obtain⟨t,ht⟩:=ob
    have ob:=hx.B t (List.mem_of_getElem? ht)
    obtain⟨hys,hyr⟩:=ob
    have ob:=sl_at1 (c:=fun t:Value×List UInt8=>t.1) hsB ht
    obtain⟨tb,to,tc,hte,htc⟩:=ob
    cases hte
    have ob:=sl_form hys
    obtain⟨ya,yc,hyf⟩:=ob
    rw[hyf] at htc hys hyr
    refine cq<|sr<|wm<|wF 3 u28 rfl ty24 rfl<|wl ty24 rfl (hXc (hMI.get hXm))<|wV (run_lenSl u24 rfl)<|wV (run_bT (run_lss rfl rfl) (by omega))<|wm<|wy<|wm<|wy<|wV (run_bT (run_lss rfl rfl) (by omega))<|wV (run_pickT rfl)<|wZ ?_
    refine CW.cond rfl (fun h=>?_) (fun h=>?_)
    ·by_cases hsm:t.2.length<65536
     ·refine ck<|cq<|cB<|sr<|wF 3 u28 rfl ty24 rfl<|wl ty24 rfl (hXc (hMI.get hXm))<|wm<|wV (run_ixSlN u24 ty76 rfl rfl (by omega))<|wl ty76 rfl (keep1 (S:=[]) htc hMI.base)<|wV (run_lenSl u76 rfl)<|wV (run_bT (run_lss rfl rfl) (by omega))<|wm<|wy<|wm ?_
      refine wy<|wF 3 u28 rfl ty24 rfl<|wy<|wl ty24 rfl (hXc (hMI.get hXm))<|wy<|wm ?_
      refine wy ?_;(first | refine WL.val rfl (run_ixSlN u24 ty76 rfl rfl (by omega)) ?_ | refine WL.val rfl (run_ixSl u24 ty76 rfl rfl (by omega)) ?_)
      refine wy<|wl ty76 rfl (keep1 (S:=[]) htc hMI.base)<|wy<|wE rfl (run_call en60 rfl rfl) (MI.put hMI (by omega) (.inl hys) hyr (by omega)) ?_
      rintro e w ⟨rfl,hMI2⟩
      refine⟨_,rfl,?_⟩
      refine wy ?_;(first | refine WL.val rfl (run_notB rfl) ?_ | refine WL.val rfl (run_not rfl) ?_)
      refine wV (run_pickT rfl)<|wZ<|CW.cond rfl (fun h=>?_) (fun h=>?_)
      ·cases h
      refine ck<|cr<|wm<|wV (run_add (c:=((i+1:Nat):Int)) rfl rfl (by omega) (by omega))<|wA<|wZ<|(show _∧_ from⟨rfl,_,?_,i+1,h200,hlt,rfl,hMI2.mono (by omega) (Nat.le_refl _),rfl,rfl,rfl,rfl,rfl,rfl,trivial⟩)
      omega
     ·refine ck<|cq<|cB<|sr<|wF 3 u28 rfl ty24 rfl<|wl ty24 rfl (hXc (hMI.get hXm))<|wm<|wV (run_ixSlN u24 ty76 rfl rfl (by omega))<|wl ty76 rfl (keep1 (S:=[]) htc hMI.base)<|wV (run_lenSl u76 rfl)<|wV (run_bF (run_lss rfl rfl) (by omega))<|wm<|wz<|wz<|wz<|wz<|wz<|wz<|wz<|wz<|wV (run_pickF rfl)<|wZ ?_
      refine CW.cond rfl (fun h=>?_) (fun h=>?_)
      ·cases h
      refine ck<|cr<|wm<|wV (run_add (c:=((i+1:Nat):Int)) rfl rfl (by omega) (by omega))<|wA<|wZ<|(show _∧_ from⟨rfl,_,?_,i+1,h200,hlt,rfl,hMI.mono (by omega) (by omega),rfl,rfl,rfl,rfl,rfl,rfl,trivial⟩)
      omega
    ·cases h
   ·refine cq<|sr<|wm<|wF 3 u28 rfl ty24 rfl<|wl ty24 rfl (hXc (hMI.get hXm))<|wV (run_lenSl u24 rfl)<|wV (run_bT (run_lss rfl rfl) (by omega))<|wm<|wy<|wm<|wy<|wV (run_bF (run_lss rfl rfl) (by omega))<|wV (run_pickT rfl)<|wZ ?_
    refine CW.cond rfl (fun h=>?_) (fun h=>?_)
    ·cases h
    refine CW.exit ?_
    exact⟨rfl,hMI.mono (by omega) (by omega),rfl,rfl,rfl,rfl,rfl,trivial⟩
  ·refine cq<|sr<|wm<|wF 3 u28 rfl ty24 rfl<|wl ty24 rfl (hXc (hMI.get hXm))<|wV (run_lenSl u24 rfl)<|wV (run_bF (run_lss rfl rfl) (by omega))<|wm<|wz<|wz<|wV (run_pickF rfl)<|wZ<|CW.cond rfl (fun h=>?_) (fun h=>?_)
   ·cases h
   refine CW.exit ?_
   exact⟨rfl,hMI.mono (by omega) (by omega),rfl,rfl,rfl,rfl,rfl,trivial⟩
 clear hMI
 rintro f w ⟨hMI,hf⟩
 have ob:=hf.chain
 obtain⟨g,rfl⟩:=ob
 replace hMI:MI b53 bp br k [(b3,blk 28 x.cells)] w0 (40000400+0) 400 w:=hMI.mono (by omega) (by omega)
 refine CW.seqM (fun f w=>MI b53 bp br k [(b3,blk 28 x.cells)] w0 40000600 400 w∧Holds f [(0,.int .i64 (k:Nat)),(3,.pointer (some ⟨b3,0,none⟩)),(6,.pointer (some ⟨bp,0,none⟩)),(8,.pointer (some ⟨br,0,none⟩)),(10,.pointer (some ⟨b53,0,none⟩))]) ?_ ?_
 ·refine sr<|wA<|wZ<|cB<|CW.loop (fun z f w'=>∃i,i≤200∧i≤x.P.length∧z=200 - i∧MI b53 bp br k [(b3,blk 28 x.cells)] w0 (40000400+i) 400 w'∧Holds f [(0,.int .i64 (k:Nat)),(3,.pointer (some ⟨b3,0,none⟩)),(6,.pointer (some ⟨bp,0,none⟩)),(8,.pointer (some ⟨br,0,none⟩)),(10,.pointer (some ⟨b53,0,none⟩)),(20,.int .i64 (i:Nat))]) (m:=200) ?_ ?_
  ·exact⟨0,by omega,Nat.zero_le _,rfl,hMI,rfl,rfl,rfl,rfl,rfl,rfl,trivial⟩
  clear hMI
  rintro z f w ⟨i,hi2,hiT,rfl,hMI,hf⟩
  have ob:=hf.chain
  obtain⟨g,rfl⟩:=ob
  have hXc:=fun{w:World} h=>xcell (x:=x) (w:=w) (b3:=b3) h hP5
  have hMI0:=hMI
  obtain⟨s,roots,vR,LR,L,R,D,hM,few,hsk,hrl⟩:=hMI0
  have ob:=hM.rr.look hM.ok.len
  obtain⟨xa,xc,hxc,hlook⟩:=ob
  have hxl:=used_len s.X
  have hxu:=hM.ok.used
  have hlk:∀{w:World},Step [] ([(b3,blk 28 x.cells)]++((b53,blk 42 (w8C bp br vR))::(LR++(L++(R++D))))) w0 w→_:=fun {w} h=>hlook (w:=w) (fun p hp=>h.has p (perm_rm hp))
  by_cases hlt:i<x.P.length
  ·by_cases h200:i<200
   ·by_cases hX0:0<s.X.length
    ·have ob:∃t,x.P[i]?=some t:=⟨_,List.getElem?_eq_getElem hlt⟩
     obtain⟨t,ht⟩:=ob
     have ob:=hx.P t (List.mem_of_getElem? ht)
     obtain⟨hz,hys,hyr⟩:=ob
     have ob:=sl_atP hsP ht
     obtain⟨tb,to,tc,hte,htc⟩:=ob
     cases hte
     have ob:=sl_form hys
     obtain⟨ya,yc,hyf⟩:=ob
     have htp:∀{X:List (Nat×Obj)}{w:World},Step [] X w0 w→At w tb (to+i*2) [.int .i64 t.1,.slice ya t.2.2.length yc]:=fun h=>by
      have h2:=htc.step h.clear (by simp)
      unfold plC at h2
      rw[hyf] at h2;exact h2
     rw[hyf] at hys hyr
     have ob:∃r,roundZ t.1 s.X.length=r:=⟨_,rfl⟩
     obtain⟨r,hre⟩:=ob
     have hrlt:=roundZ_lt (a:=t.1) hX0
     rw[hre] at hrlt
     have hrnd:=fun w=>roundL_spec (a:=t.1) (n:=s.X.length) hX0 (by omega) hz w
     simp only[hre] at hrnd
     have ob:∃b,s.X[r]?=some b:=⟨_,List.getElem?_eq_getElem hrlt⟩
     obtain⟨b,hb⟩:=ob
     have hbl:=hM.ok.len b (List.mem_of_getElem? hb)
     have hdl:(u8s b.d).length=32:=by rw[u8s,List.length_map,hbl]
     have ob:=(hlk hM.hs).2 r b hb
     obtain⟨bx,hbe,_⟩:=ob
     subst hbe
     have hrw:∀{w:World},Step [] ([(b3,blk 28 x.cells)]++((b53,blk 42 (w8C bp br vR))::(LR++(L++(R++D))))) w0 w→At w bx (0+r*34) (u8s b.d):=fun h=>by
      have ob:=(hlk h).2 r b hb
      obtain⟨bx',h1,h2⟩:=ob
      cases h1
      exact h2
     refine cq<|sr<|wm<|wF 5 u28 rfl ty26 rfl<|wl ty26 rfl (hXc (hMI.get hXm))<|wV (run_lenSl u26 rfl)<|wV (run_bT (run_lss rfl rfl) (by omega))<|wm<|wy<|wm<|wy<|wV (run_bT (run_lss rfl rfl) (by omega))<|wV (run_pickT rfl)<|wm ?_
     refine wy<|wm<|wy<|wn rfl<|wy<|wF 3 u54 rfl ty52 rfl<|wy<|wl ty52 rfl ((hlk hM.hs).1.cell (j:=3) rfl)<|wy<|wV (run_lenSl u52 rfl)<|wy<|wV (run_bT (run_gtr rfl rfl) (by omega))<|wV (run_pickT rfl)<|wZ ?_
     refine CW.cond rfl (fun h=>?_) (fun h=>?_)
     ·have hs:=hM.hs
      have ok:=hM.ok
      refine ck<|cq<|cB<|cq<|CW.any (A:=fun w=>Step [] ([(b3,blk 28 x.cells)]++((b53,blk 42 (w8C bp br vR))::(LR++(L++(R++D))))) w0 w) (C:=fun w=>Step [] ([(b3,blk 28 x.cells)]++((b53,blk 42 (w8C bp br vR))::(LR++(L++(R++D))))) w0 w) 1000000 21 mixedP rfl ?_
      replace hs:=hs.drew
      refine aM 0 rfl<|aV 1 rfl (fun w hs=>run_nilCheck rfl)<|aV 2 rfl (fun w hs=>run_field (o':=3) u54 rfl ty52 rfl rfl rfl)<|aV 3 rfl (fun w hs=>run_load1 ty52 rfl ((hlk hs).1.cell (j:=3) rfl))<|aV 4 rfl (fun w hs=>run_field (o':=5) u28 rfl ty26 rfl rfl rfl)<|aV 5 rfl (fun w hs=>run_load1 ty26 rfl (hXc (hs.has (b3,blk 28 x.cells) (by simp))))<|aM 6 rfl<|aV 7 rfl (fun w hs=>run_ixSlN u26 ty124 rfl rfl (by omega))<|aV 8 rfl (fun w hs=>run_field (o':=0) u124 rfl ty3 rfl rfl rfl)<|aV 9 rfl (fun w hs=>run_load1 ty3 rfl ((htp hs).cell (j:=0) rfl))<|aM 10 rfl<|aV 11 rfl (fun w hs=>run_nilCheck rfl)<|aV 12 rfl (fun w hs=>run_field (o':=3) u54 rfl ty52 rfl rfl rfl)<|aV 13 rfl (fun w hs=>run_load1 ty52 rfl ((hlk hs).1.cell (j:=3) rfl)) ?_
      refine aV 14 rfl (fun w hs=>run_lenSl u52 rfl)<|AL.two 15 19 (by kernel_rfl) rfl rfl (by exact hs) (by exact hs) ?_ ?_
      ·refine wE rfl (run_call en46 rfl rfl) (hrnd _) ?_
       rintro e w ⟨rfl,hq⟩
       refine⟨_,rfl,?_⟩
       replace hs:=hs.callE hq
       refine wZ<|⟨rfl,?_⟩
       refine aV 16 rfl (fun w hs=>run_ixSlN u52 ty80 rfl rfl (by omega))<|aV 17 rfl (fun w hs=>run_field (o':=0) u80 rfl ty44 rfl rfl rfl)<|aV 18 rfl (fun w hs=>run_loadN ty44 rfl hdl (hrw hs))<|AL.one 19 (by kernel_rfl) rfl (by exact hs) (by exact hs) ?_
       refine WL.alloc ty44 rfl hs (fun b21 w hs=>?_)
       refine wZ<|⟨rfl,?_⟩
       refine AL.one 20 (by kernel_rfl) rfl (by exact hs.tail) (by exact hs.tail) ?_
       refine WL.storeAll ty44 rfl rfl (hdl) (Cells1.u8s _) hs (by rfl) (fun w hs=>?_)
       refine wZ<|⟨rfl,?_⟩
       refine AL.end (by kernel_rfl) (by exact hs.tail) (by exact hs.tail) ?_
       by_cases hsm:t.2.2.length<65536
       ·replace hs:Step [] (((b21,blk 44 (u8s b.d))::(b3,blk 28 x.cells)::(b53,blk 42 (w8C bp br vR))::LR)++(L++(R++D))) w0 w:=hs
        have hpl:=fun{w1:World} (hs:Step [] (((b21,blk 44 (u8s b.d))::(b3,blk 28 x.cells)::(b53,blk 42 (w8C bp br vR))::LR)++(L++(R++D))) w0 w1)=>plant_abs (w0:=w1) hM.pr ok few (by omega) (Two.live hs) hbl (hys.step0 hs) (OutE.new hs hys (.inr (outside_nil _)) fun p hp=>by simp[hp]) (by omega)
        have hrpl:=fun{w1:World}{D1:List (Nat×Obj)} h1 h2 h3=>rplant_abs (w0:=w1) (hM.rr.mono (D':=D1++D) mem_right) ok few (by omega) h1 hbl (y:=t.2.2) (v:=.slice ya t.2.2.length yc) h2 h3 (by omega)
        refine cq<|CW.any (A:=fun w=>Step [] [(b21,blk 44 (u8s b.d)),(b3,blk 28 x.cells)] w0 w) (C:=fun w=>Step [] [(b21,blk 44 (u8s b.d)),(b3,blk 28 x.cells)] w0 w) 1000000 29 mixedP rfl ?_
        replace hs:=hs.drew
        refine aV 0 rfl (fun w hs=>run_field (o':=5) u28 rfl ty26 rfl rfl rfl)<|aV 1 rfl (fun w hs=>run_load1 ty26 rfl ((hXc hs.tail.hd)))<|aM 2 rfl<|aV 3 rfl (fun w hs=>run_ixSlN u26 ty124 rfl rfl (by omega))<|aV 4 rfl (fun w hs=>run_field (o':=1) u124 rfl ty76 rfl rfl rfl)<|aV 5 rfl (fun w hs=>run_load1 ty76 rfl ((htp hs).cell (j:=1) rfl))<|aV 6 rfl (fun w hs=>run_lenSl u76 rfl)<|aV 7 rfl (fun w hs=>run_bT (run_lss rfl rfl) (by omega))<|aM 8 rfl<|AL.valY 9 rfl (by kernel_rfl) rfl rfl rfl rfl (fun w hs=>run_move) ?_
        refine AL.valY 10 rfl (by kernel_rfl) rfl rfl rfl rfl (fun w hs=>run_loadN ty44 rfl hdl hs.a0) ?_
        refine AL.valY 11 rfl (by kernel_rfl) rfl rfl rfl rfl (fun w hs=>run_field (o':=5) u28 rfl ty26 rfl rfl rfl) ?_
        refine AL.valY 12 rfl (by kernel_rfl) rfl rfl rfl rfl (fun w hs=>run_load1 ty26 rfl ((hXc hs.tail.hd))) ?_
        refine AL.valY 13 rfl (by kernel_rfl) rfl rfl rfl rfl (fun w hs=>run_move) ?_
        refine AL.valY 14 rfl (by kernel_rfl) rfl rfl rfl rfl (fun w hs=>run_ixSlN u26 ty124 rfl rfl (by omega)) ?_
        refine AL.valY 15 rfl (by kernel_rfl) rfl rfl rfl rfl (fun w hs=>run_field (o':=1) u124 rfl ty76 rfl rfl rfl) ?_
        refine AL.valY 16 rfl (by kernel_rfl) rfl rfl rfl rfl (fun w hs=>run_load1 ty76 rfl ((htp hs).cell (j:=1) rfl)) ?_
        refine AL.valY 18 rfl (by kernel_rfl) rfl rfl rfl rfl (fun w hs=>run_move) ?_
        refine AL.valY 19 rfl (by kernel_rfl) rfl rfl rfl rfl (fun w hs=>run_loadN ty44 rfl hdl hs.a0) ?_
        refine AL.valY 20 rfl (by kernel_rfl) rfl rfl rfl rfl (fun w hs=>run_field (o':=5) u28 rfl ty26 rfl rfl rfl) ?_
        refine AL.valY 21 rfl (by kernel_rfl) rfl rfl rfl rfl (fun w hs=>run_load1 ty26 rfl ((hXc hs.tail.hd))) ?_
        refine AL.valY 22 rfl (by kernel_rfl) rfl rfl rfl rfl (fun w hs=>run_move) ?_
        refine AL.valY 23 rfl (by kernel_rfl) rfl rfl rfl rfl (fun w hs=>run_ixSlN u26 ty124 rfl rfl (by omega)) ?_
        refine AL.valY 24 rfl (by kernel_rfl) rfl rfl rfl rfl (fun w hs=>run_field (o':=1) u124 rfl ty76 rfl rfl rfl) ?_
        refine AL.valY 25 rfl (by kernel_rfl) rfl rfl rfl rfl (fun w hs=>run_load1 ty76 rfl ((htp hs).cell (j:=1) rfl)) ?_
        refine AL.one 17 (by kernel_rfl) rfl (Step.dropR (L1:=[_,_]) hs) (Step.dropR (L1:=[_,_]) hs) ?_
        refine wy<|wE rfl (run_call en35 rfl rfl) (hpl hs) ?_
        rintro e w ⟨L1,D1,rfl,hP1,hq⟩
        refine⟨_,rfl,?_⟩
        replace hs:=Two.put (A:=_::_::_::LR) hs hq
        refine wZ<|⟨rfl,?_⟩
        refine AL.one 26 (by kernel_rfl) rfl (Step.dropR (L1:=[_,_]) hs) (Step.dropR (L1:=[_,_]) hs) ?_
        refine wy<|wE rfl (run_call en62 rfl rfl) (hrpl (Two.rlive (A:=_::_::_::LR) hs) (hys.step0 hs) (OutE.new hs hys (.inr (outside_nil _)) fun p hp=>by simp[hp])) ?_
        rintro e w ⟨R1,D2,rfl,hR1,hq2⟩
        refine⟨_,rfl,?_⟩
        replace hs:=Two.rput (A:=_::_::_::LR) hs hq2
        refine wZ<|⟨rfl,?_⟩
        refine AL.valY 27 rfl (by kernel_rfl) rfl rfl rfl rfl (fun w hs=>run_bF (run_neq rfl rfl) (by exact fun h=>h rfl)) ?_
        refine aV 28 rfl (fun w hs=>run_pickT rfl)<|AL.end (by kernel_rfl) (Step.dropR (L1:=[_,_]) hs) (Step.dropR (L1:=[_,_]) hs) ?_
        have hs2:=(Step.perm hs (List.Perm.refl _)).tail
        have hMI2:MI b53 bp br k [(b3,blk 28 x.cells)] w0 (40000400+(i+1)) 400 w:=⟨(s.plant b.d t.2.2).2,roots,vR,LR,L1,R1,D2++(D1++D),⟨hP1.mono mem_right,hR1,ok.plant hbl t.2.2,hM.vr,hM.r32,hs2.perm (by simp[List.append_assoc])⟩,(few.plant b.d t.2.2).mono (by omega),by rw[plant_k'];exact hsk,hrl⟩
        refine CW.cond rfl (fun h=>?_) (fun h=>?_)
        ·cases h
        refine ck<|cr<|wm<|wV (run_add (c:=((i+1:Nat):Int)) rfl rfl (by omega) (by omega))<|wA<|wZ<|(show _∧_ from⟨rfl,_,?_,i+1,h200,hlt,rfl,hMI2,rfl,rfl,rfl,rfl,rfl,rfl,trivial⟩)
        omega
       ·have hsm2:=hsm
        refine cq<|CW.any (A:=fun w=>Step [] [(b21,blk 44 (u8s b.d)),(b3,blk 28 x.cells)] w0 w) (C:=fun w=>Step [] [(b21,blk 44 (u8s b.d)),(b3,blk 28 x.cells)] w0 w) 1000000 29 mixedP rfl ?_
        replace hs:=hs.drew
        refine aV 0 rfl (fun w hs=>run_field (o':=5) u28 rfl ty26 rfl rfl rfl)<|aV 1 rfl (fun w hs=>run_load1 ty26 rfl ((hXc hs.tail.hd)))<|aM 2 rfl<|aV 3 rfl (fun w hs=>run_ixSlN u26 ty124 rfl rfl (by omega))<|aV 4 rfl (fun w hs=>run_field (o':=1) u124 rfl ty76 rfl rfl rfl)<|aV 5 rfl (fun w hs=>run_load1 ty76 rfl ((htp hs).cell (j:=1) rfl))<|aV 6 rfl (fun w hs=>run_lenSl u76 rfl)<|aV 7 rfl (fun w hs=>run_bF (run_lss rfl rfl) (by omega))<|aM 8 rfl<|AL.valN 9 rfl (by kernel_rfl) rfl rfl rfl (.inl rfl) ?_
        refine AL.valN 10 rfl (by kernel_rfl) rfl rfl rfl (.inl rfl) ?_
        refine AL.valN 11 rfl (by kernel_rfl) rfl rfl rfl (.inl rfl) ?_
        refine AL.valN 12 rfl (by kernel_rfl) rfl rfl rfl (.inl rfl) ?_
        refine AL.valN 13 rfl (by kernel_rfl) rfl rfl rfl (.inl rfl) ?_
        refine AL.valN 14 rfl (by kernel_rfl) rfl rfl rfl (.inl rfl) ?_
        refine AL.valN 15 rfl (by kernel_rfl) rfl rfl rfl (.inl rfl) ?_
        refine AL.valN 16 rfl (by kernel_rfl) rfl rfl rfl (.inl rfl) ?_
        refine AL.valN 17 rfl (by kernel_rfl) rfl rfl rfl (.inl rfl) ?_
        refine AL.valN 18 rfl (by kernel_rfl) rfl rfl rfl (.inl rfl) ?_
        refine AL.valN 19 rfl (by kernel_rfl) rfl rfl rfl (.inl rfl) ?_
        refine AL.valN 20 rfl (by kernel_rfl) rfl rfl rfl (.inl rfl) ?_
        refine AL.valN 21 rfl (by kernel_rfl) rfl rfl rfl (.inl rfl) ?_
        refine AL.valN 22 rfl (by kernel_rfl) rfl rfl rfl (.inl rfl) ?_
        refine AL.valN 23 rfl (by kernel_rfl) rfl rfl rfl (.inl rfl) ?_
        refine AL.valN 24 rfl (by kernel_rfl) rfl rfl rfl (.inl rfl) ?_
        refine AL.valN 25 rfl (by kernel_rfl) rfl rfl rfl (.inl rfl) ?_
        refine AL.valN 26 rfl (by kernel_rfl) rfl rfl rfl (.inl rfl) ?_
        refine AL.valN 27 rfl (by kernel_rfl) rfl rfl rfl (.inl rfl) ?_
        refine aV 28 rfl (fun w hs=>run_pickF rfl)<|AL.end (by kernel_rfl) (Step.dropR (L1:=[_,_]) hs) (Step.dropR (L1:=[_,_]) hs) ?_
        have hMI2:MI b53 bp br k [(b3,blk 28 x.cells)] w0 (40000400+(i+1)) 400 _:=⟨s,roots,vR,LR,L,R,D,⟨hM.pr,hM.rr,ok,hM.vr,hM.r32,hs.tail⟩,few.mono (by omega),hsk,hrl⟩
        refine CW.cond rfl (fun h=>?_) (fun h=>?_)
        ·cases h
        refine ck<|cr<|wm<|wV (run_add (c:=((i+1:Nat):Int)) rfl rfl (by omega) (by omega))<|wA<|wZ<|(show _∧_ from⟨rfl,_,?_,i+1,h200,hlt,rfl,hMI2,rfl,rfl,rfl,rfl,rfl,rfl,trivial⟩)
        omega
      ·refine WL.alloc ty44 rfl hs (fun b21 w hs=>?_)
       refine wZ<|⟨rfl,?_⟩
       refine AL.one 15 (by kernel_rfl) rfl (by exact hs.tail) (by exact hs.tail) ?_
       refine wE rfl (run_call en46 rfl rfl) (hrnd _) ?_
       rintro e w ⟨rfl,hq⟩
       refine⟨_,rfl,?_⟩
       replace hs:=hs.callE hq
       refine wZ<|⟨rfl,?_⟩
       refine aV 16 rfl (fun w hs=>run_ixSlN u52 ty80 rfl rfl (by omega))<|aV 17 rfl (fun w hs=>run_field (o':=0) u80 rfl ty44 rfl rfl rfl)<|aV 18 rfl (fun w hs=>run_loadN ty44 rfl hdl (hrw hs))<|AL.one 20 (by kernel_rfl) rfl (by exact hs.tail) (by exact hs.tail) ?_
       refine WL.storeAll ty44 rfl rfl (hdl) (Cells1.u8s _) hs (by rfl) (fun w hs=>?_)
       refine wZ<|⟨rfl,?_⟩
       refine AL.end (by kernel_rfl) (by exact hs.tail) (by exact hs.tail) ?_
       by_cases hsm:t.2.2.length<65536
       ·replace hs:Step [] (((b21,blk 44 (u8s b.d))::(b3,blk 28 x.cells)::(b53,blk 42 (w8C bp br vR))::LR)++(L++(R++D))) w0 w:=hs
        have hpl:=fun{w1:World} (hs:Step [] (((b21,blk 44 (u8s b.d))::(b3,blk 28 x.cells)::(b53,blk 42 (w8C bp br vR))::LR)++(L++(R++D))) w0 w1)=>plant_abs (w0:=w1) hM.pr ok few (by omega) (Two.live hs) hbl (hys.step0 hs) (OutE.new hs hys (.inr (outside_nil _)) fun p hp=>by simp[hp]) (by omega)
        have hrpl:=fun{w1:World}{D1:List (Nat×Obj)} h1 h2 h3=>rplant_abs (w0:=w1) (hM.rr.mono (D':=D1++D) mem_right) ok few (by omega) h1 hbl (y:=t.2.2) (v:=.slice ya t.2.2.length yc) h2 h3 (by omega)
        refine cq<|CW.any (A:=fun w=>Step [] [(b21,blk 44 (u8s b.d)),(b3,blk 28 x.cells)] w0 w) (C:=fun w=>Step [] [(b21,blk 44 (u8s b.d)),(b3,blk 28 x.cells)] w0 w) 1000000 29 mixedP rfl ?_
        replace hs:=hs.drew
        refine aV 0 rfl (fun w hs=>run_field (o':=5) u28 rfl ty26 rfl rfl rfl)<|aV 1 rfl (fun w hs=>run_load1 ty26 rfl ((hXc hs.tail.hd)))<|aM 2 rfl<|aV 3 rfl (fun w hs=>run_ixSlN u26 ty124 rfl rfl (by omega))<|aV 4 rfl (fun w hs=>run_field (o':=1) u124 rfl ty76 rfl rfl rfl)<|aV 5 rfl (fun w hs=>run_load1 ty76 rfl ((htp hs).cell (j:=1) rfl))<|aV 6 rfl (fun w hs=>run_lenSl u76 rfl)<|aV 7 rfl (fun w hs=>run_bT (run_lss rfl rfl) (by omega))<|aM 8 rfl<|AL.valY 9 rfl (by kernel_rfl) rfl rfl rfl rfl (fun w hs=>run_move) ?_
        refine AL.valY 10 rfl (by kernel_rfl) rfl rfl rfl rfl (fun w hs=>run_loadN ty44 rfl hdl hs.a0) ?_
        refine AL.valY 11 rfl (by kernel_rfl) rfl rfl rfl rfl (fun w hs=>run_field (o':=5) u28 rfl ty26 rfl rfl rfl) ?_
        refine AL.valY 12 rfl (by kernel_rfl) rfl rfl rfl rfl (fun w hs=>run_load1 ty26 rfl ((hXc hs.tail.hd))) ?_
        refine AL.valY 13 rfl (by kernel_rfl) rfl rfl rfl rfl (fun w hs=>run_move) ?_
        refine AL.valY 14 rfl (by kernel_rfl) rfl rfl rfl rfl (fun w hs=>run_ixSlN u26 ty124 rfl rfl (by omega)) ?_
        refine AL.valY 15 rfl (by kernel_rfl) rfl rfl rfl rfl (fun w hs=>run_field (o':=1) u124 rfl ty76 rfl rfl rfl) ?_
        refine AL.valY 16 rfl (by kernel_rfl) rfl rfl rfl rfl (fun w hs=>run_load1 ty76 rfl ((htp hs).cell (j:=1) rfl)) ?_
        refine AL.valY 18 rfl (by kernel_rfl) rfl rfl rfl rfl (fun w hs=>run_move) ?_
        refine AL.valY 19 rfl (by kernel_rfl) rfl rfl rfl rfl (fun w hs=>run_loadN ty44 rfl hdl hs.a0) ?_
        refine AL.valY 20 rfl (by kernel_rfl) rfl rfl rfl rfl (fun w hs=>run_field (o':=5) u28 rfl ty26 rfl rfl rfl) ?_
        refine AL.valY 21 rfl (by kernel_rfl) rfl rfl rfl rfl (fun w hs=>run_load1 ty26 rfl ((hXc hs.tail.hd))) ?_
        refine AL.valY 22 rfl (by kernel_rfl) rfl rfl rfl rfl (fun w hs=>run_move) ?_
        refine AL.valY 23 rfl (by kernel_rfl) rfl rfl rfl rfl (fun w hs=>run_ixSlN u26 ty124 rfl rfl (by omega)) ?_
        refine AL.valY 24 rfl (by kernel_rfl) rfl rfl rfl rfl (fun w hs=>run_field (o':=1) u124 rfl ty76 rfl rfl rfl) ?_
        refine AL.valY 25 rfl (by kernel_rfl) rfl rfl rfl rfl (fun w hs=>run_load1 ty76 rfl ((htp hs).cell (j:=1) rfl)) ?_
        refine AL.one 17 (by kernel_rfl) rfl (Step.dropR (L1:=[_,_]) hs) (Step.dropR (L1:=[_,_]) hs) ?_
        refine wy<|wE rfl (run_call en35 rfl rfl) (hpl hs) ?_
        rintro e w ⟨L1,D1,rfl,hP1,hq⟩
        refine⟨_,rfl,?_⟩
        replace hs:=Two.put (A:=_::_::_::LR) hs hq
        refine wZ<|⟨rfl,?_⟩
        refine AL.one 26 (by kernel_rfl) rfl (Step.dropR (L1:=[_,_]) hs) (Step.dropR (L1:=[_,_]) hs) ?_
        refine wy<|wE rfl (run_call en62 rfl rfl) (hrpl (Two.rlive (A:=_::_::_::LR) hs) (hys.step0 hs) (OutE.new hs hys (.inr (outside_nil _)) fun p hp=>by simp[hp])) ?_
        rintro e w ⟨R1,D2,rfl,hR1,hq2⟩
        refine⟨_,rfl,?_⟩
        replace hs:=Two.rput (A:=_::_::_::LR) hs hq2
        refine wZ<|⟨rfl,?_⟩
        refine AL.valY 27 rfl (by kernel_rfl) rfl rfl rfl rfl (fun w hs=>run_bF (run_neq rfl rfl) (by exact fun h=>h rfl)) ?_
        refine aV 28 rfl (fun w hs=>run_pickT rfl)<|AL.end (by kernel_rfl) (Step.dropR (L1:=[_,_]) hs) (Step.dropR (L1:=[_,_]) hs) ?_
        have hs2:=(Step.perm hs (List.Perm.refl _)).tail
        have hMI2:MI b53 bp br k [(b3,blk 28 x.cells)] w0 (40000400+(i+1)) 400 w:=⟨(s.plant b.d t.2.2).2,roots,vR,LR,L1,R1,D2++(D1++D),⟨hP1.mono mem_right,hR1,ok.plant hbl t.2.2,hM.vr,hM.r32,hs2.perm (by simp[List.append_assoc])⟩,(few.plant b.d t.2.2).mono (by omega),by rw[plant_k'];exact hsk,hrl⟩
        refine CW.cond rfl (fun h=>?_) (fun h=>?_)
        ·cases h
        refine ck<|cr<|wm<|wV (run_add (c:=((i+1:Nat):Int)) rfl rfl (by omega) (by omega))<|wA<|wZ<|(show _∧_ from⟨rfl,_,?_,i+1,h200,hlt,rfl,hMI2,rfl,rfl,rfl,rfl,rfl,rfl,trivial⟩)
        omega
       ·have hsm2:=hsm
        refine cq<|CW.any (A:=fun w=>Step [] [(b21,blk 44 (u8s b.d)),(b3,blk 28 x.cells)] w0 w) (C:=fun w=>Step [] [(b21,blk 44 (u8s b.d)),(b3,blk 28 x.cells)] w0 w) 1000000 29 mixedP rfl ?_
        replace hs:=hs.drew
        refine aV 0 rfl (fun w hs=>run_field (o':=5) u28 rfl ty26 rfl rfl rfl)<|aV 1 rfl (fun w hs=>run_load1 ty26 rfl ((hXc hs.tail.hd)))<|aM 2 rfl<|aV 3 rfl (fun w hs=>run_ixSlN u26 ty124 rfl rfl (by omega))<|aV 4 rfl (fun w hs=>run_field (o':=1) u124 rfl ty76 rfl rfl rfl)<|aV 5 rfl (fun w hs=>run_load1 ty76 rfl ((htp hs).cell (j:=1) rfl))<|aV 6 rfl (fun w hs=>run_lenSl u76 rfl)<|aV 7 rfl (fun w hs=>run_bF (run_lss rfl rfl) (by omega))<|aM 8 rfl<|AL.valN 9 rfl (by kernel_rfl) rfl rfl rfl (.inl rfl) ?_
        refine AL.valN 10 rfl (by kernel_rfl) rfl rfl rfl (.inl rfl) ?_
        refine AL.valN 11 rfl (by kernel_rfl) rfl rfl rfl (.inl rfl) ?_
        refine AL.valN 12 rfl (by kernel_rfl) rfl rfl rfl (.inl rfl) ?_
        refine AL.valN 13 rfl (by kernel_rfl) rfl rfl rfl (.inl rfl) ?_
        refine AL.valN 14 rfl (by kernel_rfl) rfl rfl rfl (.inl rfl) ?_
        refine AL.valN 15 rfl (by kernel_rfl) rfl rfl rfl (.inl rfl) ?_
        refine AL.valN 16 rfl (by kernel_rfl) rfl rfl rfl (.inl rfl) ?_
        refine AL.valN 17 rfl (by kernel_rfl) rfl rfl rfl (.inl rfl) ?_
        refine AL.valN 18 rfl (by kernel_rfl) rfl rfl rfl (.inl rfl) ?_
        refine AL.valN 19 rfl (by kernel_rfl) rfl rfl rfl (.inl rfl) ?_
        refine AL.valN 20 rfl (by kernel_rfl) rfl rfl rfl (.inl rfl) ?_
        refine AL.valN 21 rfl (by kernel_rfl) rfl rfl rfl (.inl rfl) ?_
        refine AL.valN 22 rfl (by kernel_rfl) rfl rfl rfl (.inl rfl) ?_
        refine AL.valN 23 rfl (by kernel_rfl) rfl rfl rfl (.inl rfl) ?_
        refine AL.valN 24 rfl (by kernel_rfl) rfl rfl rfl (.inl rfl) ?_
        refine AL.valN 25 rfl (by kernel_rfl) rfl rfl rfl (.inl rfl) ?_
        refine AL.valN 26 rfl (by kernel_rfl) rfl rfl rfl (.inl rfl) ?_
        refine AL.valN 27 rfl (by kernel_rfl) rfl rfl rfl (.inl rfl) ?_
        refine aV 28 rfl (fun w hs=>run_pickF rfl)<|AL.end (by kernel_rfl) (Step.dropR (L1:=[_,_]) hs) (Step.dropR (L1:=[_,_]) hs) ?_
        have hMI2:MI b53 bp br k [(b3,blk 28 x.cells)] w0 (40000400+(i+1)) 400 _:=⟨s,roots,vR,LR,L,R,D,⟨hM.pr,hM.rr,ok,hM.vr,hM.r32,hs.tail⟩,few.mono (by omega),hsk,hrl⟩
        refine CW.cond rfl (fun h=>?_) (fun h=>?_)
        ·cases h
        refine ck<|cr<|wm<|wV (run_add (c:=((i+1:Nat):Int)) rfl rfl (by omega) (by omega))<|wA<|wZ<|(show _∧_ from⟨rfl,_,?_,i+1,h200,hlt,rfl,hMI2,rfl,rfl,rfl,rfl,rfl,rfl,trivial⟩)
        omega
     ·cases h
    ·refine cq<|sr<|wm<|wF 5 u28 rfl ty26 rfl<|wl ty26 rfl (hXc (hMI.get hXm))<|wV (run_lenSl u26 rfl)<|wV (run_bT (run_lss rfl rfl) (by omega))<|wm<|wy<|wm<|wy<|wV (run_bT (run_lss rfl rfl) (by omega))<|wV (run_pickT rfl)<|wm ?_
     refine wy<|wm<|wy<|wn rfl<|wy<|wF 3 u54 rfl ty52 rfl<|wy<|wl ty52 rfl ((hlk hM.hs).1.cell (j:=3) rfl)<|wy<|wV (run_lenSl u52 rfl)<|wy<|wV (run_bF (run_gtr rfl rfl) (by omega))<|wV (run_pickT rfl)<|wZ ?_
     refine CW.cond rfl (fun h=>?_) (fun h=>?_)
     ·cases h
     refine CW.exit ?_
     exact⟨rfl,hMI.mono (by omega) (by omega),rfl,rfl,rfl,rfl,rfl,trivial⟩
   ·refine cq<|sr<|wm<|wF 5 u28 rfl ty26 rfl<|wl ty26 rfl (hXc (hMI.get hXm))<|wV (run_lenSl u26 rfl)<|wV (run_bT (run_lss rfl rfl) (by omega))<|wm<|wy<|wm<|wy<|wV (run_bF (run_lss rfl rfl) (by omega))<|wV (run_pickT rfl)<|wm<|wz<|wz<|wz<|wz<|wz<|wz<|wV (run_pickF rfl)<|wZ ?_
    refine CW.cond rfl (fun h=>?_) (fun h=>?_)
    ·cases h
    refine CW.exit ?_
    exact⟨rfl,hMI.mono (by omega) (by omega),rfl,rfl,rfl,rfl,rfl,trivial⟩
  ·refine cq<|sr<|wm<|wF 5 u28 rfl ty26 rfl<|wl ty26 rfl (hXc (hMI.get hXm))<|wV (run_lenSl u26 rfl)<|wV (run_bF (run_lss rfl rfl) (by omega))<|wm<|wz<|wz<|wV (run_pickF rfl)<|wm<|wz<|wz<|wz<|wz<|wz<|wz<|wV (run_pickF rfl)<|wZ ?_
   refine CW.cond rfl (fun h=>?_) (fun h=>?_)
   ·cases h
   refine CW.exit ?_
   exact⟨rfl,hMI.mono (by omega) (by omega),rfl,rfl,rfl,rfl,rfl,trivial⟩
 clear hMI
 rintro f w ⟨hMI,hf⟩
 have ob:=hf.chain
 obtain⟨g,rfl⟩:=ob
 refine CW.seqM (fun f w=>MI b53 bp br k [(b3,blk 28 x.cells)] w0 40000600 400 w∧Holds f [(0,.int .i64 (k:Nat)),(3,.pointer (some ⟨b3,0,none⟩)),(6,.pointer (some ⟨bp,0,none⟩)),(8,.pointer (some ⟨br,0,none⟩)),(10,.pointer (some ⟨b53,0,none⟩))]) ?_ ?_
 ·refine sr<|wA<|wZ<|cB<|CW.loop (fun z f w'=>∃i,i≤200∧i≤x.E.length∧z=200 - i∧MI b53 bp br k [(b3,blk 28 x.cells)] w0 40000600 400 w'∧Holds f [(0,.int .i64 (k:Nat)),(3,.pointer (some ⟨b3,0,none⟩)),(6,.pointer (some ⟨bp,0,none⟩)),(8,.pointer (some ⟨br,0,none⟩)),(10,.pointer (some ⟨b53,0,none⟩)),(22,.int .i64 (i:Nat))]) (m:=200) ?_ ?_
  ·exact⟨0,by omega,Nat.zero_le _,rfl,hMI,rfl,rfl,rfl,rfl,rfl,rfl,trivial⟩
  clear hMI
  rintro z f w ⟨i,hi2,hiT,rfl,hMI,hf⟩
  have ob:=hf.chain
  obtain⟨g,rfl⟩:=ob
  have hXc:=fun{w:World} h=>xcell (x:=x) (w:=w) (b3:=b3) h hE4
  have hMI0:=hMI
  obtain⟨s,roots,vR,LR,L,R,D,hM,few,hsk,hrl⟩:=hMI0
  have ob:=hM.rr.look hM.ok.len
  obtain⟨xa,xc,hxc,hlook⟩:=ob
  have hxl:=used_len s.X
  have hxu:=hM.ok.used
  have hlk:∀{w:World},Step [] ([(b3,blk 28 x.cells)]++((b53,blk 42 (w8C bp br vR))::(LR++(L++(R++D))))) w0 w→_:=fun {w} h=>hlook (w:=w) (fun p hp=>h.has p (perm_rm hp))
  by_cases hlt:i<x.E.length
  ·by_cases h200:i<200
   ·by_cases hX0:0<s.X.length
    ·have ob:∃t,x.E[i]?=some t:=⟨_,List.getElem?_eq_getElem hlt⟩
     obtain⟨t,ht⟩:=ob
     have hz:=hx.E t (List.mem_of_getElem? ht)
     have ob:=sl_at1 (c:=fun z:Int=>Value.int .i64 z) hsE ht
     obtain⟨tb,to,tc,hte,htc⟩:=ob
     cases hte
     have ob:∃r,roundZ t s.X.length=r:=⟨_,rfl⟩
     obtain⟨r,hre⟩:=ob
     have hrlt:=roundZ_lt (a:=t) hX0
     rw[hre] at hrlt
     have hrnd:=fun w=>roundL_spec (a:=t) (n:=s.X.length) hX0 (by omega) hz w
     simp only[hre] at hrnd
     have ob:∃b,s.X[r]?=some b:=⟨_,List.getElem?_eq_getElem hrlt⟩
     obtain⟨b,hb⟩:=ob
     have hbl:=hM.ok.len b (List.mem_of_getElem? hb)
     have hdl:(u8s b.d).length=32:=by rw[u8s,List.length_map,hbl]
     have ob:=(hlk hM.hs).2 r b hb
     obtain⟨bx,hbe,_⟩:=ob
     subst hbe
     have hrw:∀{w:World},Step [] ([(b3,blk 28 x.cells)]++((b53,blk 42 (w8C bp br vR))::(LR++(L++(R++D))))) w0 w→At w bx (0+r*34) (u8s b.d):=fun h=>by
      have ob:=(hlk h).2 r b hb
      obtain⟨bx',h1,h2⟩:=ob
      cases h1
      exact h2
     refine cq<|sr<|wm<|wF 4 u28 rfl ty25 rfl<|wl ty25 rfl (hXc (hMI.get hXm))<|wV (run_lenSl u25 rfl)<|wV (run_bT (run_lss rfl rfl) (by omega))<|wm<|wy<|wm<|wy<|wV (run_bT (run_lss rfl rfl) (by omega))<|wV (run_pickT rfl)<|wm ?_
     refine wy<|wm<|wy<|wn rfl<|wy<|wF 3 u54 rfl ty52 rfl<|wy<|wl ty52 rfl ((hlk hM.hs).1.cell (j:=3) rfl)<|wy<|wV (run_lenSl u52 rfl)<|wy<|wV (run_bT (run_gtr rfl rfl) (by omega))<|wV (run_pickT rfl)<|wZ ?_
     refine CW.cond rfl (fun h=>?_) (fun h=>?_)
     ·have hs:=hM.hs
      have ok:=hM.ok
      refine ck<|cq<|cB<|cq<|CW.any (A:=fun w=>Step [] ([(b3,blk 28 x.cells)]++((b53,blk 42 (w8C bp br vR))::(LR++(L++(R++D))))) w0 w) (C:=fun w=>Step [] ([(b3,blk 28 x.cells)]++((b53,blk 42 (w8C bp br vR))::(LR++(L++(R++D))))) w0 w) 1000000 20 mixedP rfl ?_
      replace hs:=hs.drew
      refine aM 0 rfl<|aV 1 rfl (fun w hs=>run_nilCheck rfl)<|aV 2 rfl (fun w hs=>run_field (o':=3) u54 rfl ty52 rfl rfl rfl)<|aV 3 rfl (fun w hs=>run_load1 ty52 rfl ((hlk hs).1.cell (j:=3) rfl))<|aV 4 rfl (fun w hs=>run_field (o':=4) u28 rfl ty25 rfl rfl rfl)<|aV 5 rfl (fun w hs=>run_load1 ty25 rfl (hXc (hs.has (b3,blk 28 x.cells) (by simp))))<|aM 6 rfl<|aV 7 rfl (fun w hs=>run_ixSlN u25 ty3 rfl rfl (by omega))<|aV 8 rfl (fun w hs=>run_load1 ty3 rfl (keep1 (S:=[]) htc hs.clear))<|aM 9 rfl<|aV 10 rfl (fun w hs=>run_nilCheck rfl)<|aV 11 rfl (fun w hs=>run_field (o':=3) u54 rfl ty52 rfl rfl rfl)<|aV 12 rfl (fun w hs=>run_load1 ty52 rfl ((hlk hs).1.cell (j:=3) rfl))<|aV 13 rfl (fun w hs=>run_lenSl u52 rfl) ?_
      refine AL.two 14 18 (by kernel_rfl) rfl rfl (by exact hs) (by exact hs) ?_ ?_
      ·refine wE rfl (run_call en46 rfl rfl) (hrnd _) ?_
       rintro e w ⟨rfl,hq⟩
       refine⟨_,rfl,?_⟩
       replace hs:=hs.callE hq
       refine wZ<|⟨rfl,?_⟩
       refine aV 15 rfl (fun w hs=>run_ixSlN u52 ty80 rfl rfl (by omega))<|aV 16 rfl (fun w hs=>run_field (o':=0) u80 rfl ty44 rfl rfl rfl)<|aV 17 rfl (fun w hs=>run_loadN ty44 rfl hdl (hrw hs))<|AL.one 18 (by kernel_rfl) rfl (by exact hs) (by exact hs) ?_
       refine WL.alloc ty44 rfl hs (fun b23 w hs=>?_)
       refine wZ<|⟨rfl,?_⟩
       refine AL.one 19 (by kernel_rfl) rfl (by exact hs.tail) (by exact hs.tail) ?_
       refine WL.storeAll ty44 rfl rfl (hdl) (Cells1.u8s _) hs (by rfl) (fun w hs=>?_)
       refine wZ<|⟨rfl,?_⟩
       refine AL.end (by kernel_rfl) (by exact hs.tail) (by exact hs.tail) ?_
       replace hs:Step [] (((b23,blk 44 (u8s b.d))::(b3,blk 28 x.cells)::(b53,blk 42 (w8C bp br vR))::LR)++(L++(R++D))) w0 w:=hs
       refine cq<|CW.any (A:=fun w=>Step [] [(b23,blk 44 (u8s b.d))] w0 w) (C:=fun w=>Step [] [(b23,blk 44 (u8s b.d))] w0 w) 1000000 7 mixedP rfl ?_
       replace hs:=hs.drew
       refine aM 0 rfl<|aV 1 rfl (fun w hs=>run_loadN ty44 rfl hdl hs.a0)<|aM 3 rfl<|aV 4 rfl (fun w hs=>run_loadN ty44 rfl hdl hs.a0)<|AL.one 2 (by kernel_rfl) rfl (Step.dropR (L1:=[_]) hs) (Step.dropR (L1:=[_]) hs) ?_
       refine wE rfl (run_call en34 rfl rfl) (evict_abs hM.pr ok (Two.live (A:=_::_::_::LR) hs) hbl) ?_
       rintro e w ⟨L1,rfl,hP1,hq⟩
       refine⟨_,rfl,?_⟩
       replace hs:=Two.set (A:=_::_::_::LR) hs hq
       refine wZ<|⟨rfl,?_⟩
       refine AL.one 5 (by kernel_rfl) rfl (Step.dropR (L1:=[_]) hs) (Step.dropR (L1:=[_]) hs) ?_
       refine wE rfl (run_call en63 rfl rfl) (revict_abs hM.rr ok (Two.rlive (A:=_::_::_::LR) hs) hbl) ?_
       rintro e w ⟨R1,rfl,hR1,hq2⟩
       refine⟨_,rfl,?_⟩
       replace hs:=Two.rset (A:=_::_::_::LR) hs hq2
       refine wZ<|⟨rfl,?_⟩
       refine aV 6 rfl (fun w hs=>run_neqB u4 rfl rfl)<|AL.end (by kernel_rfl) (Step.dropR (L1:=[_]) hs) (Step.dropR (L1:=[_]) hs) ?_
       have hs2:=hs.tail
       have hMI2:MI b53 bp br k [(b3,blk 28 x.cells)] w0 40000600 400 w:=⟨s.evict b.d,roots,vR,LR,L1,R1,D,⟨hP1,hR1,ok.del b.d,hM.vr,hM.r32,hs2.perm (by simp[List.append_assoc])⟩,few.evict b.d,hsk,hrl⟩
       refine CW.cond rfl (fun h=>?_) (fun h=>?_)
       ·simp at h
       refine ck<|cr<|wm<|wV (run_add (c:=((i+1:Nat):Int)) rfl rfl (by omega) (by omega))<|wA<|wZ<|(show _∧_ from⟨rfl,_,?_,i+1,h200,hlt,rfl,hMI2,rfl,rfl,rfl,rfl,rfl,rfl,trivial⟩)
       omega
      ·refine WL.alloc ty44 rfl hs (fun b23 w hs=>?_)
       refine wZ<|⟨rfl,?_⟩
       refine AL.one 14 (by kernel_rfl) rfl (by exact hs.tail) (by exact hs.tail) ?_
       refine wE rfl (run_call en46 rfl rfl) (hrnd _) ?_
       rintro e w ⟨rfl,hq⟩
       refine⟨_,rfl,?_⟩
       replace hs:=hs.callE hq
       refine wZ<|⟨rfl,?_⟩
       refine aV 15 rfl (fun w hs=>run_ixSlN u52 ty80 rfl rfl (by omega))<|aV 16 rfl (fun w hs=>run_field (o':=0) u80 rfl ty44 rfl rfl rfl)<|aV 17 rfl (fun w hs=>run_loadN ty44 rfl hdl (hrw hs))<|AL.one 19 (by kernel_rfl) rfl (by exact hs.tail) (by exact hs.tail) ?_
       refine WL.storeAll ty44 rfl rfl (hdl) (Cells1.u8s _) hs (by rfl) (fun w hs=>?_)
       refine wZ<|⟨rfl,?_⟩
       refine AL.end (by kernel_rfl) (by exact hs.tail) (by exact hs.tail) ?_
       replace hs:Step [] (((b23,blk 44 (u8s b.d))::(b3,blk 28 x.cells)::(b53,blk 42 (w8C bp br vR))::LR)++(L++(R++D))) w0 w:=hs
       refine cq<|CW.any (A:=fun w=>Step [] [(b23,blk 44 (u8s b.d))] w0 w) (C:=fun w=>Step [] [(b23,blk 44 (u8s b.d))] w0 w) 1000000 7 mixedP rfl ?_
       replace hs:=hs.drew
       refine aM 0 rfl<|aV 1 rfl (fun w hs=>run_loadN ty44 rfl hdl hs.a0)<|aM 3 rfl<|aV 4 rfl (fun w hs=>run_loadN ty44 rfl hdl hs.a0)<|AL.one 2 (by kernel_rfl) rfl (Step.dropR (L1:=[_]) hs) (Step.dropR (L1:=[_]) hs) ?_
       refine wE rfl (run_call en34 rfl rfl) (evict_abs hM.pr ok (Two.live (A:=_::_::_::LR) hs) hbl) ?_
       rintro e w ⟨L1,rfl,hP1,hq⟩
       refine⟨_,rfl,?_⟩
       replace hs:=Two.set (A:=_::_::_::LR) hs hq
       refine wZ<|⟨rfl,?_⟩
       refine AL.one 5 (by kernel_rfl) rfl (Step.dropR (L1:=[_]) hs) (Step.dropR (L1:=[_]) hs) ?_
       refine wE rfl (run_call en63 rfl rfl) (revict_abs hM.rr ok (Two.rlive (A:=_::_::_::LR) hs) hbl) ?_
       rintro e w ⟨R1,rfl,hR1,hq2⟩
       refine⟨_,rfl,?_⟩
       replace hs:=Two.rset (A:=_::_::_::LR) hs hq2
       refine wZ<|⟨rfl,?_⟩
       refine aV 6 rfl (fun w hs=>run_neqB u4 rfl rfl)<|AL.end (by kernel_rfl) (Step.dropR (L1:=[_]) hs) (Step.dropR (L1:=[_]) hs) ?_
       have hs2:=hs.tail
       have hMI2:MI b53 bp br k [(b3,blk 28 x.cells)] w0 40000600 400 w:=⟨s.evict b.d,roots,vR,LR,L1,R1,D,⟨hP1,hR1,ok.del b.d,hM.vr,hM.r32,hs2.perm (by simp[List.append_assoc])⟩,few.evict b.d,hsk,hrl⟩
       refine CW.cond rfl (fun h=>?_) (fun h=>?_)
       ·simp at h
       refine ck<|cr<|wm<|wV (run_add (c:=((i+1:Nat):Int)) rfl rfl (by omega) (by omega))<|wA<|wZ<|(show _∧_ from⟨rfl,_,?_,i+1,h200,hlt,rfl,hMI2,rfl,rfl,rfl,rfl,rfl,rfl,trivial⟩)
       omega
     ·cases h
    ·refine cq<|sr<|wm<|wF 4 u28 rfl ty25 rfl<|wl ty25 rfl (hXc (hMI.get hXm))<|wV (run_lenSl u25 rfl)<|wV (run_bT (run_lss rfl rfl) (by omega))<|wm<|wy<|wm<|wy<|wV (run_bT (run_lss rfl rfl) (by omega))<|wV (run_pickT rfl)<|wm ?_
     refine wy<|wm<|wy<|wn rfl<|wy<|wF 3 u54 rfl ty52 rfl<|wy<|wl ty52 rfl ((hlk hM.hs).1.cell (j:=3) rfl)<|wy<|wV (run_lenSl u52 rfl)<|wy<|wV (run_bF (run_gtr rfl rfl) (by omega))<|wV (run_pickT rfl)<|wZ ?_
     refine CW.cond rfl (fun h=>?_) (fun h=>?_)
     ·cases h
     refine CW.exit ?_
     exact⟨rfl,hMI,rfl,rfl,rfl,rfl,rfl,trivial⟩
   ·refine cq<|sr<|wm<|wF 4 u28 rfl ty25 rfl<|wl ty25 rfl (hXc (hMI.get hXm))<|wV (run_lenSl u25 rfl)<|wV (run_bT (run_lss rfl rfl) (by omega))<|wm<|wy<|wm<|wy<|wV (run_bF (run_lss rfl rfl) (by omega))<|wV (run_pickT rfl)<|wm<|wz<|wz<|wz<|wz<|wz<|wz<|wV (run_pickF rfl)<|wZ ?_
    refine CW.cond rfl (fun h=>?_) (fun h=>?_)
    ·cases h
    refine CW.exit ?_
    exact⟨rfl,hMI,rfl,rfl,rfl,rfl,rfl,trivial⟩
  ·refine cq<|sr<|wm<|wF 4 u28 rfl ty25 rfl<|wl ty25 rfl (hXc (hMI.get hXm))<|wV (run_lenSl u25 rfl)<|wV (run_bF (run_lss rfl rfl) (by omega))<|wm<|wz<|wz<|wV (run_pickF rfl)<|wm<|wz<|wz<|wz<|wz<|wz<|wz<|wV (run_pickF rfl)<|wZ ?_
   refine CW.cond rfl (fun h=>?_) (fun h=>?_)
   ·cases h
   refine CW.exit ?_
   exact⟨rfl,hMI,rfl,rfl,rfl,rfl,rfl,trivial⟩
 clear hMI
 rintro f w ⟨hMI,hf⟩
 have ob:=hf.chain
 obtain⟨g,rfl⟩:=ob
 obtain⟨s,roots,vR,LR,L,R,D,hM,few,hsk,hrl⟩:=hMI
 have hs:=hM.hs
 have hal:=fun{w:World} (h:MX b53 bp br [(b3,blk 28 x.cells)] w0 s roots vR LR L R D w)=>alike8_spec (w0:=w) h.pr h.rr h.ok h.lives h.rlives
 have hMw:=fun{w:World} (h:Step [] ([(b3,blk 28 x.cells)]++((b53,blk 42 (w8C bp br vR))::(LR++(L++(R++D))))) w0 w)=>(⟨hM.pr,hM.rr,hM.ok,hM.vr,hM.r32,h⟩:MX b53 bp br [(b3,blk 28 x.cells)] w0 s roots vR LR L R D w)
 refine cq<|CW.quiet mixedP (by kernel_rfl) hs ?_
 refine qm<|qm<|qn rfl<|qF 0 u42 rfl ty39 rfl<|qV (fun w hs=>run_load1 ty39 rfl (((hMw hs).wc.cell (j:=0) rfl)))<|qm<|qn rfl<|qF 1 u42 rfl ty40 rfl<|qV (fun w hs=>run_load1 ty40 rfl (((hMw hs).wc.cell (j:=1) rfl)))<|QL.enter rfl (fun w=>run_call en22 rfl rfl) (fun w hs=>hal (hMw hs)) ?_
 refine qV (fun w hs=>run_assign)<|qV (fun w hs=>run_assign)<|QL.nil (fun w hs=>?_)
 refine CW.ret ?_
 refine fin_ret2 rfl ?_
 exact⟨b53,bp,br,rfl,s,roots,vR,LR,L,R,D,(hMw hs).drop (A:=[(b3,blk 28 x.cells)]),few.mono (by omega),hsk,hrl⟩
end Go.Gx
namespace Go.Gx
open Go.Proofs Go.RowKit
def kf8:List UInt8:=[161,40,113,254,226,16,251,134,25,41,30,174,161,148,88,28,189,37,49,228,178,55,89,210,37,246,128,105,35,246,50,34]
def kd8:List UInt8:=[57,223,184,154,222,43,219,127,98,240,8,144,244,168,7,45,94,53,177,31,0,144,215,30,171,238,148,31,57,35,52,40]
def kEnt8:Ent:=⟨[120],1,kf8⟩
def ky8:List UInt8:=[1,1,1,1,120,32]++kf8
theorem kf8_eq:frontL [1,2] 32=kf8:=by decide +kernel
theorem ky8_eq:encB [kEnt8]=ky8:=by decide +kernel
theorem kd8_eq:frontL ky8 32=kd8:=by decide +kernel
def kS1:AS:=⟨32,1000,1,0,1,[⟨kf8,[1,2],1⟩]⟩
def kS2:AS:=⟨32,1000,2,0,2,[⟨kd8,ky8,2⟩,⟨kf8,[1,2],1⟩]⟩
theorem k8_run:(runs kS2 (rmOf 9 9 9) [rootS kd8] ws0).1=0∧reachL (runs kS2 (rmOf 9 9 9) [rootS kd8] ws0)=[kd8,kf8]:=by decide +kernel
theorem put_new{s s2:AS}{y d:List UInt8} (h1:y.length≤1048576) (hd:frontL y s.k=d) (h2:findX d s.X=none) (h3:({ s with puts:=s.puts+1 }:AS).lay d y=some s2):s.put y=(d,0,s2):=by
 subst hd
 unfold AS.put
 simp only
 rw[if_neg (by omega),h2]
 simp only
 rw[h3]
theorem k8_put1:(newS 32 1000).put [1,2]=(kf8,0,kS1):=put_new (by decide) kf8_eq (by kernel_rfl) (by kernel_rfl)
theorem k8_put2:kS1.put ky8=(kd8,0,kS2):=put_new (by decide) kd8_eq (by kernel_rfl) (by kernel_rfl)
attribute [local irreducible] shaL cutD frontL
theorem bld_k8 (w:World):(Instr.build 115 #[(0,str [120]),(1,.int .i64 1),(2,.agg (u8s kf8).toArray)]).run Tryz.prog w=.ok (.agg kEnt8.cells.toArray) w:=by kernel_rfl
theorem fill_k8:Filled 32 2 (List.replicate 32 (Value.int .u8 0)) [(0,.agg (u8s kd8).toArray),(1,.agg (u8s kf8).toArray)] (u8s kd8++u8s kf8):=by unfold Filled;kernel_rfl
theorem kS1_ok:kS1.Ok∧kS1.Few 5:=by
 have h:=newS_ok (k:=32) (c:=1000) (by omega) (by omega) (by omega)
 have h2:=h.put [1,2]
 rw[k8_put1] at h2
 exact⟨h2,⟨by decide,by decide,by decide⟩⟩
theorem kS2_ok:kS2.Ok∧kS2.Few 5:=by
 have h2:=kS1_ok.1.put ky8
 rw[k8_put2] at h2
 exact⟨h2,⟨by decide,by decide,by decide⟩⟩
theorem rm9_ok:(rmOf 9 9 9).Ok:=⟨by decide,by decide,by decide⟩
set_option maxHeartbeats 8000000 in
theorem known8_spec (w0:World):Calls Tryz.prog 15 #[] w0 (Ret0 (.bool true) w0):=by
 have hs:Step [] [] w0 w0:=Step.refl w0
 have hfl:(u8s kf8).length=32:=rfl
 have hdl:(u8s kd8).length=32:=rfl
 have hel:kEnt8.cells.length=34:=rfl
 have heo:Oks [kEnt8]:=Oks.one ⟨rfl,by decide,by decide,by decide⟩
 have hp1:=fun{bp:Nat}{w:World}{D L:List (Nat×Obj)}{v:Value} (hR:PRep bp (newS 32 1000) D L) hw hy hr hO=>put_abs (w0:=w) (y:=[1,2]) (v:=v) (n:=0) hR (newS_ok (by omega) (by omega) (by omega)) newS_few (by omega) hw hy hr hO (by decide)
 have hp2:=fun{bp:Nat}{w:World}{D L:List (Nat×Obj)}{v:Value} (hR:PRep bp kS1 D L) hw hy hr hO=>put_abs (w0:=w) (y:=ky8) (v:=v) (n:=5) hR kS1_ok.1 kS1_ok.2 (by omega) hw hy hr hO (by decide)
 have hre:=fun{bp:Nat}{w:World}{D L:List (Nat×Obj)} (hR:PRep bp kS2 D L) hw=>reach_spec (w0:=w) (d:=kd8) (rn:=9) (rd:=9) (rb:=9) hR kS2_ok.1 kS2_ok.2 (by omega) rfl rm9_ok hw
 simp only[k8_put1] at hp1
 simp only[k8_put2] at hp2
 simp only[k8_run.1,k8_run.2] at hre
 refine calls (n:=56) Tryz.func15 rfl rfl rfl ?_
 refine sr<|wA<|wZ<|sr<|wE rfl (run_call en56 rfl rfl) (new_abs (k:=32) (c:=1000) (by omega) (by omega) (by omega) _) ?_
 rintro e w ⟨bp,L0,rfl,hP0,hq⟩
 refine⟨_,rfl,?_⟩
 replace hs:=hs.callAll0 hq
 refine wm<|wx rfl rfl<|wx rfl rfl<|wA<|wA<|wZ<|cq<|sr<|wm<|wV (run_bF (run_neq rfl rfl) (by exact fun h=>h rfl))<|wm<|wy<|wm ?_
 refine wy<|wV (run_ptrNil u39 rfl rfl)<|wV (run_pickF rfl)<|wZ<|CW.cond rfl (fun h=>?_) (fun h=>?_)
 ·cases h
 refine ck<|sr<|wm<|WL.buildSlice (cs:=u8s [1,2]) u76 ty5 rfl (by decide) rfl (by rfl) rfl hs (fun b23 w hs=>?_)
 replace hs:Step [] ([(b23,blk 5 (u8s [1,2]))]++(L0++[])) w0 w:=by rw[List.append_nil];exact hs
 have hsl23:Sl w 1 (.slice (some ⟨b23,0,none⟩) 2 2) [(1:UInt8),2].length (u8s [1,2]):=Sl.mk rfl (At.of_blk hs.hd)
 refine wE rfl (run_call en36 rfl rfl) (hp1 hP0 (Own.live (A:=[_]) hs) hsl23 (Nat.le_refl _) (.inr (fun hm=>by have hn:=hs.nodup;rw[List.map_append,List.nodup_append] at hn;exact hn.2.2 b23 (by simp) b23 (by rw[List.map_append];exact List.mem_append_left _ hm) rfl))) ?_
 rintro e w ⟨L1,D1,rfl,hP1,hq⟩
 refine⟨_,rfl,?_⟩
 replace hs:=Own.put (A:=[_]) hs hq
 refine wm<|wx rfl rfl<|wx rfl rfl<|WL.alloc ty44 rfl hs (fun b3 w hs=>?_)
 refine WL.storeAll ty44 rfl rfl ((hfl)) ((Cells1.u8s _)) hs (by rfl) (fun w hs=>?_)
 refine wA<|wZ<|sr<|wV (run_loadN ty44 rfl hfl hs.a0)<|wV (run_build rfl (bld_k8 _))<|WL.buildSlice (cs:=kEnt8.cells) u116 ty115 rfl (by decide) rfl (filled1 hel rfl) rfl hs (fun b30 w hs=>?_)
 have hes:Es w (.slice (some ⟨b30,0,none⟩) 1 1) [kEnt8]:=⟨Sl.mk (by rw[rows_one];exact hel) (by rw[rows_one];exact At.of_blk hs.hd),heo,by simp⟩
 refine wE rfl (run_call en57 rfl rfl) (encodeR_ok _ hes (Nat.le_refl _) (by decide)) ?_
 rintro e w ⟨v5,L5,rfl,hv5,hq⟩
 refine⟨_,rfl,?_⟩
 replace hs:=Step.call0 hs hq
 refine wm<|wx rfl rfl<|wx rfl rfl<|wA<|wA<|wZ ?_
 rw[ky8_eq] at hv5
 have ob:=hv5.form
 obtain⟨ya,yc,rfl⟩:=ob
 replace hs:Step [] ((L5++[(b30,blk 115 kEnt8.cells),(b3,blk 44 (u8s kf8)),(b23,blk 5 (u8s [1,2]))])++(L1++(D1++[]))) w0 w:=by rw[List.append_assoc];exact hs
 have hsl5:Sl w 1 (.slice ya ky8.length yc) ky8.length (u8s ky8):=hv5.slW fun p hp=>hs.has p (by simp[hp])
 have hout:OutE (.slice ya ky8.length yc) ky8 (L1.map (·.1)):=.inr (Held.out (show Held L5 (.slice ya ky8.length yc) ky8 from⟨L5,hv5,fun p hp=>hp⟩) fun p hp hm=>by
  have hn:=hs.nodup
  rw[List.map_append,List.nodup_append] at hn
  exact hn.2.2 p.1 (by simp only[List.map_append,List.mem_append];exact .inl (List.mem_map_of_mem hp)) p.1 (by rw[List.map_append];exact List.mem_append_left _ hm) rfl)
 refine sr<|wm<|wm<|wE rfl (run_call en36 rfl rfl) (hp2 hP1 (Own.live hs) hsl5 (hv5.roomW (by omega)) hout) ?_
 rintro e w ⟨L2,D2,rfl,hP2,hq⟩
 refine⟨_,rfl,?_⟩
 replace hs:=Own.put hs hq
 refine wm<|wx rfl rfl<|wx rfl rfl<|WL.alloc ty44 rfl hs (fun b7 w hs=>?_)
 refine WL.storeAll ty44 rfl rfl ((hdl)) ((Cells1.u8s _)) hs (by rfl) (fun w hs=>?_)
 refine wA<|wZ ?_
 replace hs:Step [] (((b7,blk 44 (u8s kd8))::(L5++[(b30,blk 115 kEnt8.cells),(b3,blk 44 (u8s kf8)),(b23,blk 5 (u8s [1,2]))]))++(L2++(D2++(D1++[])))) w0 w:=hs
 refine sr<|wm<|wV (run_loadN ty44 rfl hdl hs.a0)<|wV (run_build rfl (bld_room _ _ _ _))<|wE rfl (run_call en17 rfl rfl) (hre hP2 (Own.live hs)) ?_
 rintro e w ⟨v9,L9,L3,D3,rfl,hP3,hv9,hq⟩
 refine⟨_,rfl,?_⟩
 replace hs:=Own.put (A:=_::(L5++[_,_,_])) (L:=L2) hs hq
 refine wm<|wx rfl rfl<|wx rfl rfl<|wA<|wA<|wZ ?_
 have hb3:At w b3 0 (u8s kf8):=At.of_blk (hs.has (b3,blk 44 (u8s kf8)) (by simp))
 refine sr<|wm<|wV (run_bT (run_eql rfl rfl) (by rfl))<|wm<|wy<|wm<|wy<|wV (run_loadN ty44 rfl hdl hs.a0)<|wy<|wV (run_loadN ty44 rfl hfl hb3)<|wy<|WL.buildSlice (cs:=u8s kd8++u8s kf8) u35 ty44 rfl (by decide) rfl (fill_k8) rfl hs (fun b53 w hs=>?_)
 have hd53:Dgs w (.slice (some ⟨b53,0,none⟩) 2 2) [kd8,kf8]:=⟨Sl.mk rfl (At.of_blk hs.hd),by decide,by decide⟩
 have hd9:Dgs w v9 [kd8,kf8]:=Dgs.own hv9 (fun p hp=>hs.has p (by simp[hp])) (by decide) (by decide)
 refine wy<|wE rfl (run_call en20 rfl rfl) (sameD_spec hd9 hd53) ?_
 rintro e w ⟨rfl,hq⟩
 refine⟨_,rfl,?_⟩
 replace hs:=hs.callE hq
 refine wV (run_pickT rfl)<|wA<|wZ<|CW.ret ?_
 refine fin_ret1 rfl ?_
 exact⟨rfl,hs.clear⟩
end Go.Gx
namespace Go.Gx
open Go.Proofs Go.RowKit
attribute [local irreducible] shaL cutD frontL
theorem visit_g{s:AS}{rm:Rm}{x:Std}{t:WS}{k:Nat} (h:t.Good k):(visit s rm x t).2.2.g≤65537:=by
 have h1:=h.g
 have h2:=h.n
 unfold visit
 split
 ·show t.g≤_;omega
 split
 ·show t.g≤_;omega
 split
 ·show t.g+1≤_;omega
 split
 ·split
  ·show t.g+1≤_;omega
  ·show t.g+1≤_;omega
 ·split
  ·show t.g+1≤_;omega
  ·show t.g+1≤_;omega
theorem seqS_g{f:Std→WS→Int×WS} (hf:∀x t,t.Good 0→(f x t).2.g≤65537) (hg:∀x t,t.Good 0→(f x t).1=0→(f x t).2.Good 0):∀{l:List Std}{t:WS},t.Good 0→(seqS f l t).2.g≤65537
 | [],t,h=>by have h1:=h.g;have h2:=h.n;show t.g≤_;omega
 | x::l,t,h=>by
  rw[seqS]
  by_cases c:(f x t).1≠0
  ·rw[if_pos c];exact hf x t h
  ·rw[if_neg c]
   exact seqS_g hf hg (hg x t h (by simpa using c))
theorem standP_g{s:AS}{rm:Rm} (hrm:rm.Ok):∀(n:Nat){x:Std}{t:WS},t.Good (kOf x)→(standP s rm n x t).2.g≤65537
 | 0,x,t,h=>by have h1:=h.g;have h2:=h.n;show t.g≤_;omega
 | n+1,x,t,h=>by
  rw[standP]
  by_cases c:(visit s rm x t).1≠0
  ·rw[if_pos c];exact visit_g h
  ·rw[if_neg c]
   exact seqS_g (fun y u hu=>standP_g hrm n (push_good y hu)) (fun y u hu hy=>standP_good hrm n (push_good y hu) hy) (visit_good hrm h (by simpa using c))
theorem runs_g{s:AS}{rm:Rm} (hrm:rm.Ok) (d:List UInt8):(runs s rm [rootS d] ws0).2.g≤65537:=by
 rw[runs_root]
 exact standP_g hrm 34 (ws0_good.mono (by omega))
theorem rmOf_ok{a b c:Int} (ha : -9223372036854775808≤a∧a≤9223372036854775807) (hb : -9223372036854775808≤b∧b≤9223372036854775807) (hc : -9223372036854775808≤c∧c≤9223372036854775807):(rmOf a b c).Ok:=by
 refine⟨?_,?_,?_⟩ <;> (unfold rmOf minZ;simp only;split <;> omega)
theorem Stup.Ok.step0{x:Stup}{w w':World}{L:List (Nat×Obj)} (h:x.Ok w) (hs:Step [] L w w'):x.Ok w':=
 ⟨h.cap,h.sT.step0 hs,fun t ht=>⟨(h.T t ht).1.step0 hs,(h.T t ht).2⟩,h.sN.step0 hs,fun t ht=>⟨(h.N t ht).1.step0 hs,(h.N t ht).2⟩,h.sB.step0 hs,fun t ht=>⟨(h.B t ht).1.step0 hs,(h.B t ht).2⟩,h.sE.step0 hs,h.E,h.sP.step0 hs,fun t ht=>⟨(h.P t ht).1,(h.P t ht).2.1.step0 hs,(h.P t ht).2.2⟩⟩
theorem cnt_key:Tryz.prog.keyTypeAt 5 50=true:=by kernel_rfl
theorem cnt_formed (a b:Nat):Value.formed Tryz.prog 50 (.agg [.int .i64 (a:Nat),.int .i64 (b:Nat)].toArray)=true:=by
 simp only[Value.formed,u50,ty50.cellsOf]
 simp
theorem cnt_guard:Tryz.prog.eqGuardType Tryz.prog.depth 50=false:=by kernel_rfl
theorem cnt_lits{a b:Nat} (ha:a<1099511627776) (hb:b<1099511627776):Tryz.prog.keyLits 4 50 [.int .i64 (a:Nat),.int .i64 (b:Nat)]=some [.int .i64 (a:Nat),.int .i64 (b:Nat)]:=by
 have h2:∀c:Nat,c<1099511627776→Tryz.prog.keyLits 3 3 [.int .i64 (c:Nat)]=some [.int .i64 (c:Nat)]:=fun c hc=>by
  have hw:(Lit.int .i64 (c:Nat)).wf=true:=WalkArith.wf_i64 (by omega)
  unfold Program.keyLits
  simp only[u3,hw,and_self,if_true]
 unfold Program.keyLits
 simp only[u50,ty50.cellsOf]
 rw[if_pos ⟨rfl,by kernel_rfl⟩]
 have e1:(([.int .i64 (a:Nat),.int .i64 (b:Nat)]:List Value).drop 0).take 1=[.int .i64 (a:Nat)]:=rfl
 have e2:(([.int .i64 (a:Nat),.int .i64 (b:Nat)]:List Value).drop 1).take 1=[.int .i64 (b:Nat)]:=rfl
 simp only[List.mapM_cons,List.mapM_nil,ty3.cellsOf,e1,e2,h2 a ha,h2 b hb]
 rfl
section
variable{f:Slots}{w:World}{d:Option Tmp}{ty:TypeId}{pos:String}{af:Array Edge}{x y:Operand}{T':TypeId}
theorem run_eqCnt{a b:Nat} (ha:a<1099511627776) (hb:b<1099511627776) (hx:ev f x=.agg #[.int .i64 (a:Nat),.int .i64 (b:Nat)]) (hy:ev f y=.agg #[.int .i64 (a:Nat),.int .i64 (b:Nat)]) :
  (execOp (ev f) ⟨d,.binOp .eql 50 x y T',ty,pos,af,none⟩).run Tryz.prog w=.ok (.value (.bool true)) w:=
 run_bT (run_eqlAgg (p:=True) (by simp) cnt_key (cnt_formed a b) (cnt_formed a b) cnt_guard hx hy (cnt_lits ha hb) (cnt_lits ha hb)) trivial
end
theorem perm_w1{α:Type}{a b c:α}{LR L R D:List α}:((a::(LR++(L++(R++D))))++[b,c]).Perm ((b::c::a::LR)++(L++(R++D))):=by
 classical exact List.perm_iff_count.2 fun x=>by simp only[List.count_append,List.count_cons,List.count_nil];omega
theorem mem_w1{α:Type}{a b c p:α}{LR L R D:List α} (h:p∈R):p∈((b::c::a::LR)++(L++(R++D))):=by simp[h]
theorem mem_w2{α:Type}{a b c p:α}{LR L R D:List α} (h:p∈LR):p∈((b::c::a::LR)++(L++(R++D))):=by simp[h]
section
variable{wd cp z rn rd rb:Int}{x:Stup}
end
end Go.Gx
