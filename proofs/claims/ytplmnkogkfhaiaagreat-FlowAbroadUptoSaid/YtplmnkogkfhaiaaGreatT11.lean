/- The law's below: walked. FlowAbroad, plain: what a Copy of a root comes to, and a second one with room. No program in sight. FlowAbroad, plain: what stands in a directory that was met stands there as it is named. No program in sight. FlowAbroad, walked. -/
import Derived.Test.YtplmnkogkfhaiaaGreatT10
import Derived.Test.YtplmnkogkfhaiaaGreatT2
set_option linter.unusedVariables false
set_option linter.unusedSimpArgs false
set_option maxRecDepth 100000
namespace Go.Gx
open Go.Proofs
attribute [local irreducible] shaL cutD frontL decL decE
def partsA (s:AS) (A:List (List UInt8)) (x:List UInt8):List (List UInt8):=if x∈A then partsX s x else []
theorem Rch.shut{P:List UInt8→List (List UInt8)}{C:List (List UInt8)}{p x:List UInt8} (h:Rch P p x):p∈C→(∀y∈C,∀z∈P y,z∈C∧z≠x)→False:=by
 induction h with
 | one h=>exact fun hp hC=>(hC _ hp _ h).2 rfl
 | step h _ ih=>exact fun hp hC=>ih (hC _ hp _ h).1 hC
def BelTo (s:AS) (A U:List (List UInt8)) (d x:List UInt8) (i:Nat) (l:List (List UInt8)):Prop:=l.Nodup∧d∈l∧(∀y∈l,y∈U)∧∀(j:Nat) (y:List UInt8),j<i→l[j]?=some y→∀z∈partsA s A y,z∈l∧z≠x
theorem BelTo.add{s:AS}{d x z:List UInt8}{A U l:List (List UInt8)}{i:Nat} (h:BelTo s A U d x i l) (hi:i≤l.length) (hx:z∉l) (hU:z∈U):BelTo s A U d x i (l++[z]):=
 ⟨nodup_snoc.2 ⟨h.1,hx⟩,List.mem_append_left _ h.2.1,fun y hy=>(List.mem_append.1 hy).elim (h.2.2.1 y) (fun hy=>by rw[List.mem_singleton.1 hy];exact hU),fun j y hj hy e he=>⟨List.mem_append_left _ (h.2.2.2 j y hj (by rw[List.getElem?_append_left (by omega)] at hy;exact hy) e he).1,(h.2.2.2 j y hj (by rw[List.getElem?_append_left (by omega)] at hy;exact hy) e he).2⟩⟩
theorem BelTo.next{s:AS}{d x z:List UInt8}{A U l:List (List UInt8)}{i:Nat} (h:BelTo s A U d x i l) (hz:l[i]?=some z) (hc:∀y∈partsA s A z,y∈l∧y≠x):BelTo s A U d x (i+1) l:=
 ⟨h.1,h.2.1,h.2.2.1,fun j y hj hy e he=>by
  rcases Nat.lt_or_ge j i with hlt | hge
  ·exact h.2.2.2 j y hlt hy e he
  ·obtain rfl:j=i:=by omega
   rw[hz] at hy
   cases hy
   exact hc e he⟩
theorem Step.b8Out{S:List Nat}{a:Nat×Obj}{Ll Lp G:List (Nat×Obj)}{w w':World} (h:Step S (Ll++(Lp++(a::G))) w w'):Step S (Ll++(a::(Lp++G))) w w':=h.perm (by
 classical exact List.perm_iff_count.2 fun x=>by simp only[List.count_append,List.count_cons];omega)
section
variable{bp:Nat}{s:AS}{D L:List (Nat×Obj)}{d x:List UInt8}{w0:World}
set_option maxHeartbeats 8000000 in
theorem below8_spec{A U:List (List UInt8)}{u:Value} (hR:PRep bp s D L) (ok:s.Ok) (hw:Lives (L++D) w0) (hd:d.length=32) (hx:x.length=32) (hu:Dgs w0 u A) (hU:U.length≤65536) (hdU:d∈U) (hcl:∀y∈A,∀z∈partsX s y,z∈U) (hU32:∀y∈U,y.length=32) (hrch:Rch (partsA s A) d x) :
  Calls Tryz.prog 53 #[.pointer (some ⟨bp,0,none⟩),u,.agg (u8s d).toArray,.agg (u8s x).toArray] w0 (Ret0 (.bool true) w0):=by
 have hs:Step [] [] w0 w0:=Step.refl w0
 have hdl:(u8s d).length=32:=by rw[u8s,List.length_map,hd]
 have hxl:(u8s x).length=32:=by rw[u8s,List.length_map,hx]
 have ob:=hu.form
 obtain⟨ua,uc,rfl⟩:=ob
 refine calls (n:=57) Tryz.func53 rfl rfl rfl ?_
 refine sr<|WL.box (cs:=u8s d) rfl rfl rfl hs (fun b6 w hs=>?_)
 refine WL.box (cs:=u8s x) rfl rfl rfl hs (fun b7 w hs=>?_)
 refine wA<|wZ<|sr<|wV (run_loadN ty44 rfl hdl hs.a1)<|WL.buildSlice (cs:=u8s d) u35 ty44 rfl (by decide) rfl (filled1 hdl rfl) rfl hs (fun b14 w hs=>?_)
 refine wA<|wZ ?_
 have hv0:OwnSl 44 32 (.slice (some ⟨b14,0,none⟩) 1 1) [d].length (digsL [d]) [(b14,blk 44 (u8s d))]:=by
  have e:digsL [d]=u8s d:=by simp[digsL]
  rw[e]
  exact OwnSl.mk (k:=1) (by rw[hdl])
 replace hs:Step [] ([(b14,blk 44 (u8s d))]++((b7,blk 44 (u8s x))::[(b6,blk 44 (u8s d))])) w0 w:=hs
 have h0:BelTo s A U d x 0 [d]:=⟨by simp,by simp,fun y hy=>by rw[List.mem_singleton.1 hy];exact hdU,fun j y hj=>absurd hj (Nat.not_lt_zero _)⟩
 refine CW.seqM (fun f w=>False) ?_ (fun f w h=>h.elim)
 refine sr<|wA<|wZ<|cB<|CW.loop (fun zz f w'=>∃(i:Nat) (l:List (List UInt8)) (vl:Value) (Ll G:List (Nat×Obj)),i≤l.length∧zz=65536 - i∧BelTo s A U d x i l∧OwnSl 44 32 vl l.length (digsL l) Ll∧Step [] (Ll++((b7,blk 44 (u8s x))::G)) w0 w'∧Holds f [(0,.pointer (some ⟨bp,0,none⟩)),(1,.slice ua A.length uc),(7,.pointer (some ⟨b7,0,none⟩)),(9,vl),(10,.int .i64 (i:Nat))]) (m:=65536) ?_ ?_
 ·exact⟨0,[d],_,_,_,Nat.zero_le _,rfl,h0,hv0,hs,rfl,rfl,rfl,rfl,rfl,trivial⟩
 clear hs hv0 h0
 rintro zz f w ⟨i,l,vl,Ll,G,hi,rfl,hT,hvl,hs,hf⟩
 have hll:=Nat.le_trans (nodup_len hT.1 hT.2.2.1) hU
 have hlp:0<l.length:=List.length_pos_of_mem hT.2.1
 have hl32:∀y∈l,y.length=32:=fun y hy=>hU32 y (hT.2.2.1 y hy)
 have ob:=hvl.some1 hlp
 obtain⟨bl,cl,ml,rfl,rfl,hml⟩:=ob
 have ob:=hf.chain
 obtain⟨g,rfl⟩:=ob
 by_cases hlt:i<l.length
 ·have ob:∃z,l[i]?=some z:=⟨_,List.getElem?_eq_getElem hlt⟩
  obtain⟨z,hz⟩:=ob
  have hzm:=List.mem_of_getElem? hz
  have hz32:=hl32 z hzm
  have hzl:(u8s z).length=32:=by rw[u8s,List.length_map,hz32]
  have hzat:∀{w:World},Step [] ([(bl,blk 44 (digsL l++ml))]++((b7,blk 44 (u8s x))::G)) w0 w→At w bl (0+i*32) (u8s z):=fun h=>digsL_at hl32 (At.of_blk (h.has (bl,blk 44 (digsL l++ml)) (by simp))).left hz
  have hha:=fun{w1:World} (h:Step [] [] w0 w1)=>hasL8_spec (w0:=w1) (hu.step0 h) hz32
  refine cq<|sr<|wm<|wm<|wV (run_lenSl u35 rfl)<|wV (run_bT (run_lss rfl rfl) (by omega))<|wZ ?_
  first | refine CW.condP rfl (fun h=>?_) (fun h=>?_) | refine CW.cond rfl (fun h=>?_) (fun h=>?_)
  ·refine ck<|CW.seqM (fun f w=>∃(l:List (List UInt8)) (vl:Value) (Ll G:List (Nat×Obj)),i+1≤l.length∧BelTo s A U d x (i+1) l∧OwnSl 44 32 vl l.length (digsL l) Ll∧Step [] (Ll++((b7,blk 44 (u8s x))::G)) w0 w∧Holds f [(0,.pointer (some ⟨bp,0,none⟩)),(1,.slice ua A.length uc),(7,.pointer (some ⟨b7,0,none⟩)),(9,vl),(10,.int .i64 (i:Nat))]) ?_ ?_
   ·by_cases hzA:z∈A
    ·rw[decide_eq_true hzA] at hha
     refine cB<|cq<|sr<|wm<|wm<|wm ?_
     first | refine WL.val rfl (run_ixSlN u35 ty44 rfl rfl (by omega)) ?_ | refine WL.val rfl (run_ixSl u35 ty44 rfl rfl (by omega)) ?_
     refine wV (run_loadN ty44 rfl hzl (hzat hs))<|wE rfl (run_call en32 rfl rfl) (hha hs.clear) ?_
     rintro e w ⟨rfl,hq⟩
     refine⟨_,rfl,?_⟩
     replace hs:=hs.callE hq
     first | refine WL.val rfl (run_notB rfl) ?_ | refine WL.val rfl (run_not rfl) ?_
     refine wZ ?_
     first | refine CW.condP rfl (fun h=>?_) (fun h=>?_) | refine CW.cond rfl (fun h=>?_) (fun h=>?_)
     ·cases h
     refine ck<|sr<|wm<|wm<|wm ?_
     first | refine WL.val rfl (run_ixSlN u35 ty44 rfl rfl (by omega)) ?_ | refine WL.val rfl (run_ixSl u35 ty44 rfl rfl (by omega)) ?_
     refine wV (run_loadN ty44 rfl hzl (hzat hs))<|wE rfl (run_call en51 rfl rfl) (parts8_spec hR ok (hw.after hs.clear) hz32) ?_
     rintro e w ⟨vp,Lp,rfl,hvp,hp32,hpl,hq⟩
     refine⟨_,rfl,?_⟩
     replace hs:=Step.call0 hs hq
     refine wA<|wZ ?_
     have ob:∃ps,partsX s z=ps:=⟨_,rfl⟩
     obtain⟨ps,hps⟩:=ob
     have hpA:partsA s A z=ps:=by rw[partsA,if_pos hzA,hps]
     have hpU:=hcl z hzA
     rw[hps] at hvp hp32 hpl hpU
     have ob:=hvp.form
     obtain⟨pa,pc,rfl⟩:=ob
     have hhp:=fun{w1:World} (h:∀p∈Lp,w1.heap[p.1]?=some p.2)=>hasL8_spec (w0:=w1) (Dgs.own hvp h hp32 (by omega)) hx
     have hxa:At w b7 0 (u8s x):=At.of_blk (hs.has (b7,blk 44 (u8s x)) (by simp))
     by_cases hxp:x∈ps
     ·rw[decide_eq_true hxp] at hhp
      refine cq<|sr<|wm<|wV (run_loadN ty44 rfl hxl hxa)<|wE rfl (run_call en32 rfl rfl) (hhp (fun p hp=>hs.has p (by simp[hp]))) ?_
      rintro e w ⟨rfl,hq⟩
      refine⟨_,rfl,?_⟩
      replace hs:=hs.callE hq
      refine wZ ?_
      first | refine CW.condP rfl (fun h=>?_) (fun h=>?_) | refine CW.cond rfl (fun h=>?_) (fun h=>?_)
      ·refine sr<|wA<|wZ<|CW.ret ?_
       refine fin_ret1 rfl ?_
       exact⟨rfl,hs.clear⟩
      ·cases h
     rw[decide_eq_false hxp] at hhp
     refine cq<|sr<|wm<|wV (run_loadN ty44 rfl hxl hxa)<|wE rfl (run_call en32 rfl rfl) (hhp (fun p hp=>hs.has p (by simp[hp]))) ?_
     rintro e w ⟨rfl,hq⟩
     refine⟨_,rfl,?_⟩
     replace hs:=hs.callE hq
     refine wZ ?_
     first | refine CW.condP rfl (fun h=>?_) (fun h=>?_) | refine CW.cond rfl (fun h=>?_) (fun h=>?_)
     ·cases h
     replace hs:Step [] ([(bl,blk 44 (digsL l++ml))]++(Lp++((b7,blk 44 (u8s x))::G))) w0 w:=hs.perm (by
      classical exact List.perm_iff_count.2 fun a=>by simp only[List.count_append,List.count_cons];omega)
     refine ck<|sr<|wA<|wZ<|cB<|CW.loop (fun zz f w'=>∃(k:Nat) (l:List (List UInt8)) (vl:Value) (Ll G:List (Nat×Obj)),k≤ps.length∧zz=ps.length - k∧i<l.length∧l[i]?=some z∧BelTo s A U d x i l∧(∀y∈ps.take k,y∈l)∧OwnSl 44 32 vl l.length (digsL l) Ll∧Step [] (Ll++(Lp++((b7,blk 44 (u8s x))::G))) w0 w'∧Holds f [(0,.pointer (some ⟨bp,0,none⟩)),(1,.slice ua A.length uc),(7,.pointer (some ⟨b7,0,none⟩)),(9,vl),(10,.int .i64 (i:Nat)),(11,.slice pa ps.length pc),(12,.int .i64 (k:Nat))]) (m:=ps.length) ?_ ?_
     ·exact⟨0,l,_,_,_,Nat.zero_le _,rfl,hlt,hz,hT,(fun e he=>by simp at he),hvl,hs,rfl,rfl,rfl,rfl,rfl,rfl,rfl,trivial⟩
     clear hs hvl hT hlt hz hl32 hll hlp hml hzat hzm hxa
     rintro zz f w ⟨k,l,vl,Ll,G,hk,rfl,hlt,hz,hT,htk,hvl,hs,hf⟩
     have hll:=Nat.le_trans (nodup_len hT.1 hT.2.2.1) hU
     have hl32:∀y∈l,y.length=32:=fun y hy=>hU32 y (hT.2.2.1 y hy)
     have ob:=hvl.form
     obtain⟨va,vc,rfl⟩:=ob
     have ob:=hf.chain
     obtain⟨g,rfl⟩:=ob
     by_cases hkl:k<ps.length
     ·have ob:=hvp.some1 (by omega)
      obtain⟨bu,cu,more,hu1,hu2,hu3⟩:=ob
      cases hu1
      subst hu2
      have ob:∃y,ps[k]?=some y:=⟨_,List.getElem?_eq_getElem hkl⟩
      obtain⟨y,hy⟩:=ob
      have hym:=List.mem_of_getElem? hy
      have hy32:=hp32 y hym
      have hyl:(u8s y).length=32:=by rw[u8s,List.length_map,hy32]
      have hyat:∀{w1:World}{Ll:List (Nat×Obj)},Step [] (Ll++([(bu,blk 44 (digsL ps++more))]++((b7,blk 44 (u8s x))::G))) w0 w1→At w1 bu (0+k*32) (u8s y):=fun h=>digsL_at hp32 (At.of_blk (h.has (bu,blk 44 (digsL ps++more)) (by simp))).left hy
      have htk1:ps.take (k+1)=ps.take k++[y]:=by rw[List.take_add_one,hy];rfl
      have hhas:=fun{w1:World} (h:∀p∈Ll,w1.heap[p.1]?=some p.2)=>hasL8_spec (w0:=w1) (Dgs.own hvl h hl32 (by omega)) hy32
      refine cq<|sr<|wm<|wm<|wV (run_lenSl u35 rfl)<|wV (run_bT (run_lss rfl rfl) (by omega))<|wZ ?_
      first | refine CW.condP rfl (fun h=>?_) (fun h=>?_) | refine CW.cond rfl (fun h=>?_) (fun h=>?_)
      ·by_cases hm:y∈l
       ·rw[decide_eq_true hm] at hhas
        refine ck<|cq<|cB<|sr<|wm<|wm<|wm ?_
        first | refine WL.val rfl (run_ixSlN u35 ty44 rfl rfl (by omega)) ?_ | refine WL.val rfl (run_ixSl u35 ty44 rfl rfl (by omega)) ?_
        refine wV (run_loadN ty44 rfl hyl (hyat hs))<|wE rfl (run_call en32 rfl rfl) (hhas (fun p hp=>hs.has p (by simp[hp]))) ?_
        rintro e w ⟨rfl,hq⟩
        refine⟨_,rfl,?_⟩
        replace hs:=hs.callE hq
        first | refine WL.val rfl (run_notB rfl) ?_ | refine WL.val rfl (run_not rfl) ?_
        refine wZ ?_
        first | refine CW.condP rfl (fun h=>?_) (fun h=>?_) | refine CW.cond rfl (fun h=>?_) (fun h=>?_)
        ·cases h
        refine ck<|cr<|wm<|wV (run_add (c:=((k+1:Nat):Int)) rfl rfl (by omega) (by omega))<|wA<|wZ<|(show _∧_ from⟨rfl,_,?_,k+1,l,_,Ll,_,hkl,rfl,hlt,hz,hT,?_,hvl,hs,rfl,rfl,rfl,rfl,rfl,rfl,rfl,trivial⟩)
        ·omega
        ·intro q hq
         rw[htk1] at hq
         rcases List.mem_append.1 hq with hq | hq
         ·exact htk q hq
         ·rw[List.mem_singleton.1 hq];exact hm
       ·rw[decide_eq_false hm] at hhas
        refine ck<|cq<|cB<|sr<|wm<|wm<|wm ?_
        first | refine WL.val rfl (run_ixSlN u35 ty44 rfl rfl (by omega)) ?_ | refine WL.val rfl (run_ixSl u35 ty44 rfl rfl (by omega)) ?_
        refine wV (run_loadN ty44 rfl hyl (hyat hs))<|wE rfl (run_call en32 rfl rfl) (hhas (fun p hp=>hs.has p (by simp[hp]))) ?_
        rintro e w ⟨rfl,hq⟩
        refine⟨_,rfl,?_⟩
        replace hs:=hs.callE hq
        first | refine WL.val rfl (run_notB rfl) ?_ | refine WL.val rfl (run_not rfl) ?_
        refine wZ ?_
        first | refine CW.condP rfl (fun h=>?_) (fun h=>?_) | refine CW.cond rfl (fun h=>?_) (fun h=>?_)
        ·skip
         refine cr<|wm<|wm<|wm ?_
         first | refine WL.val rfl (run_ixSlN u35 ty44 rfl rfl (by omega)) ?_ | refine WL.val rfl (run_ixSl u35 ty44 rfl rfl (by omega)) ?_
         refine wV (run_loadN ty44 rfl hyl (hyat hs))<|WL.buildSlice (cs:=u8s y) u35 ty44 rfl (by decide) rfl (filled1 hyl rfl) rfl hs (fun b55 w hs=>?_)
         have hsl55:Sl w 32 (.slice (some ⟨b55,0,none⟩) 1 1) 1 (u8s y):=.own1 hs (by rw[hyl])
         replace hs:=Step.pIn hs
         refine WL.append u35 u35 ty44 rfl (by decide) rfl rfl (hvl) (hs) (hsl55) (Cells1.u8s _) (by omega) rfl (fun v56 Lv56 w hv56 hs=>?_)
         replace hs:=Step.pOut hs
         refine wA<|wZ ?_
         have hv2:OwnSl 44 32 v56 (l++[y]).length (digsL (l++[y])) Lv56:=by
          rw[List.length_append,digsL_snoc];exact hv56
         refine cr<|wm<|wV (run_add (c:=((k+1:Nat):Int)) rfl rfl (by omega) (by omega))<|wA<|wZ<|(show _∧_ from⟨rfl,_,?_,k+1,l++[y],_,Lv56,_,hkl,rfl,by rw[List.length_append];omega,by rw[List.getElem?_append_left hlt];exact hz,hT.add (by omega) hm (hpU y hym),?_,hv2,hs,rfl,rfl,rfl,rfl,rfl,rfl,rfl,trivial⟩)
         ·omega
         ·intro q hq
          rw[htk1] at hq
          rcases List.mem_append.1 hq with hq | hq
          ·exact List.mem_append_left _ (htk q hq)
          ·rw[List.mem_singleton.1 hq];simp
        ·cases h
      ·cases h
     ·obtain rfl:k=ps.length:=by omega
      rw[List.take_length] at htk
      refine cq<|sr<|wm<|wm<|wV (run_lenSl u35 rfl)<|wV (run_bF (run_lss rfl rfl) (by omega))<|wZ ?_
      first | refine CW.condP rfl (fun h=>?_) (fun h=>?_) | refine CW.cond rfl (fun h=>?_) (fun h=>?_)
      ·cases h
      refine CW.exit ?_
      exact⟨rfl,l,_,Ll,_,hlt,hT.next hz (fun q hq=>by rw[hpA] at hq;exact⟨htk q hq,fun e=>hxp (e▸hq)⟩),hvl,Step.b8Out hs,rfl,rfl,rfl,rfl,rfl,trivial⟩
    ·rw[decide_eq_false hzA] at hha
     refine cB<|cq<|sr<|wm<|wm<|wm ?_
     first | refine WL.val rfl (run_ixSlN u35 ty44 rfl rfl (by omega)) ?_ | refine WL.val rfl (run_ixSl u35 ty44 rfl rfl (by omega)) ?_
     refine wV (run_loadN ty44 rfl hzl (hzat hs))<|wE rfl (run_call en32 rfl rfl) (hha hs.clear) ?_
     rintro e w ⟨rfl,hq⟩
     refine⟨_,rfl,?_⟩
     replace hs:=hs.callE hq
     first | refine WL.val rfl (run_notB rfl) ?_ | refine WL.val rfl (run_not rfl) ?_
     refine wZ ?_
     first | refine CW.condP rfl (fun h=>?_) (fun h=>?_) | refine CW.cond rfl (fun h=>?_) (fun h=>?_)
     ·refine CW.exit ?_
      exact⟨rfl,l,_,_,G,hlt,hT.next hz (fun q hq=>by rw[partsA,if_neg hzA] at hq;cases hq),hvl,hs,rfl,rfl,rfl,rfl,rfl,trivial⟩
     ·cases h
   clear hs hvl hT hlt hz hl32 hll hlp hml hzat hzm
   rintro f w ⟨l,vl,Ll,G,hlt,hT,hvl,hs,hf⟩
   have ob:=hf.chain
   obtain⟨g,rfl⟩:=ob
   have hll:=Nat.le_trans (nodup_len hT.1 hT.2.2.1) hU
   refine cr<|wm<|wV (run_add (c:=((i+1:Nat):Int)) rfl rfl (by omega) (by omega))<|wA<|wZ<|(show _∧_ from⟨rfl,_,?_,i+1,l,vl,Ll,G,hlt,rfl,hT,hvl,hs,rfl,rfl,rfl,rfl,rfl,trivial⟩)
   omega
  ·cases h
 ·obtain rfl:i=l.length:=by omega
  exact(hrch.shut hT.2.1 fun y hy q hq=>by
   have ob:=List.mem_iff_getElem.1 hy
   obtain⟨j,hj,hje⟩:=ob
   exact hT.2.2.2 j y hj (by rw[List.getElem?_eq_getElem hj,hje]) q hq).elim
end
end Go.Gx
namespace Go.Gx
open Go.Proofs List
attribute [local irreducible] shaL cutD frontL decL decE
section
variable{s:AS}{rm:Rm}{A:U8→Prop}
theorem kid_dir{x:Std}{z:Ent} (h:(kidOf x z).dir=true):z.kind=2:=by
 simpa[kidOf] using h
theorem seqS_in2{f:Std→WS→Int×WS} (hf:∀x t,MLe t (f x t).2){T:WS}:∀(l:List Std) (t:WS),(∀y∈l,∀u,(f y u).1=0→MLe (f y u).2 T→(∀p∈u.m,p.2=true→A p.1)→∀p∈(f y u).2.m,p.2=true→A p.1)→(seqS f l t).1=0→MLe (seqS f l t).2 T→(∀p∈t.m,p.2=true→A p.1)→∀p∈(seqS f l t).2.m,p.2=true→A p.1
 | [],t,_,_,_,ht=>ht
 | y::l,t,h,h0,hT,ht=>by
  by_cases c:(f y t).1≠0
  ·rw[seqS,if_pos c] at h0
   exact absurd h0 c
  rw[seqS,if_neg c] at h0 hT⊢
  have hp:=seqS_mle hf l (f y t).2
  exact seqS_in2 hf l _ (fun z hz=>h z (by simp[hz])) h0 hT (h y (by simp) t (by simpa using c) (fun p hq=>hT p (hp p hq)) ht)
theorem standP_dirs{T:WS} (hA:∀y,A y→(y,true)∈T.m→∀e∈decL (s.get y).1,e.kind=2→A e.dig):∀(n:Nat) (x:Std) (t:WS),(standP s rm n x t).1=0→MLe (standP s rm n x t).2 T→(x.dir=true→A x.d)→(∀p∈t.m,p.2=true→A p.1)→∀p∈(standP s rm n x t).2.m,p.2=true→A p.1
 | 0,x,t,h,_,_,_=>by rw[standP] at h;cases h
 | n+1,x,t,h,hT,hx,ht=>by
  have hv:(visit s rm x t).1=0:=by
   by_cases c:(visit s rm x t).1=0
   ·exact c
   ·rw[standP,if_pos c] at h
    exact absurd h c
  rw[standP,if_neg (fun k=>k hv)] at h hT⊢
  have hp:=seqS_mle (fun y u p hp=>standP_mle (s:=s) (rm:=rm) n y (push y u) p (push_mle y u p hp)) (visit s rm x t).2.1 (visit s rm x t).2.2
  have hm:=visit_m hv
  have hxT:(x.d,x.dir)∈T.m:=hT _ (hp _ (visit_met hv))
  have hkid:∀y∈(visit s rm x t).2.1,y.dir=true→A y.d:=by
   rcases (visit_ok hv).2.2.2 with⟨hd,_,e⟩ | ⟨_,_,e⟩
   ·intro y hy hyd
    rw[e] at hy
    have ob:=mem_map.1 hy
    obtain⟨z,hz,rfl⟩:=ob
    rw[hd] at hxT
    exact hA _ (hx hd) hxT z hz (kid_dir hyd)
   ·intro y hy
    rw[e] at hy
    cases hy
  refine seqS_in2 (fun y u p hp=>standP_mle n y (push y u) p (push_mle y u p hp)) _ _ (fun y hy u h1 h2 hu=>standP_dirs hA n y (push y u) h1 h2 (hkid y hy) (fun p hp=>hu p (by rw[push_m] at hp;exact hp))) h hT fun p hp=>?_
  rw[hm] at hp
  rcases mem_append.1 hp with hp | hp
  ·exact ht p hp
  ·rw[mem_singleton] at hp
   rw[hp];exact hx
end
theorem raw_got{s:AS}{d:U8} (h:(s.get d).2=0):partsX s d=partsD s d:=by
 rw[partsX,partsD,get_raw h]
theorem dirs_iff{s:AS}{d:U8}{t:WS}{A:List (List UInt8)} (h:runs s rmG [rootS d] ws0=(0,t)) (hm:Met s d t.m) (hA:DirsOk s d ((t.m.filter fun p=>p.2).map (·.1)) A):∀x,x∈A↔(x,true)∈t.m:=by
 intro x
 constructor
 ·intro hx
  have ob:=mem_map.1 (hA.sub x hx)
  obtain⟨p,hp,rfl⟩:=ob
  rw[mem_filter] at hp
  obtain⟨⟨pd,pb⟩,hp1,hp2⟩:∃q,q∈t.m∧(q.1,true)=(p.1,true)∧q.2=true:=⟨p,hp.1,rfl,hp.2⟩
  obtain⟨h1,h2⟩:=hp2
  simp only at h2
  subst h2
  simp only[Prod.mk.injEq,and_true] at h1
  rw[←h1];exact hp1
 ·intro hx
  rw[runs_root] at h
  have h2:=standP_dirs (s:=s) (rm:=rmG) (A:=fun y=>y∈A) (T:=t) (fun y hy hyt e he hk=>hA.closed y hy e (by rw[get_raw (hm.got _ hyt)];exact he) hk) 34 (rootS d) ws0 (by rw[h]) (by rw[h];exact fun _ h=>h) (fun _=>hA.head) (fun p hp=>by cases hp)
  rw[h] at h2
  exact h2 (x,true) hx rfl
theorem partsA_eq{s:AS}{d:U8}{m:List (List UInt8×Bool)}{A:List (List UInt8)} (hm:Met s d m) (h:∀x,x∈A↔(x,true)∈m):partsA s A=partsM s m:=by
 funext y
 rw[partsA,partsM]
 by_cases hy:y∈A
 ·rw[if_pos hy,if_pos ((h y).1 hy),raw_got (hm.got _ ((h y).1 hy))]
 ·rw[if_neg hy,if_neg (fun k=>hy ((h y).2 k))]
structure AbOk (s t t':AS) (r:Int×WS) (of:List (List UInt8)) (n:Nat) (f:Int):Prop where
 copy:CopyOk t t' (of.map fun x=>(x,(s.get x).1)) 0 n f
 num:((ordM r.2.m).filter fun x=>decide (t'.stamp x≠t.stamp x)).length=n
 below:∀x∈ordM r.2.m,t'.stamp x≠t.stamp x→∀p∈partsM s r.2.m x,t'.whole p=true∨Rch (partsM s r.2.m) p x
 same:∀d,r=runs s rmG [rootS d] ws0→r.1=0→f=0→runs t' rmG [rootS d] ws0=r
 few:n≤(ordM r.2.m).length
theorem whole_get{t:AS}{d:U8} (h:(t.get d).2=0):t.whole d=true:=by
 have ob:=get_found h
 obtain⟨b,hb,hf⟩:=ob
 rw[AS.whole,hb]
 simpa using hf
theorem abOk {s t t':AS}{d:U8}{r:Int×WS}{gf of:List (List UInt8)}{kk n:Nat}{f:Int} (ok:s.Ok) (sm:Small s) (okt:t.Ok) (hk:s.k=t.k) (hd:d.length=32) (hr:runs s rmG [rootS d] ws0=r) (h0:r.1=0) (hG:Goes (partsM s r.2.m) [d] [] [] gf of kk) (hc:copyR t (of.map fun x=>(x,(s.get x).1)) 0=(n,f,t')):AbOk s t t' r of n f:=by
 have hr2:runs s rmG [rootS d] ws0=(0,r.2):=by rw[hr,←h0]
 have hm:=runs_met hd hr2
 have ob:=goes_met hr2 hm hG
 obtain⟨hnd,hiff,hlen⟩:=ob
 have hgot:∀x∈of,(s.get x).2=0:=fun x hx=>by
  have h1:=(hiff x).1 hx
  rw[ordM_mem] at h1
  have ob:=mem_map.1 h1
  obtain⟨p,hp,rfl⟩:=ob
  exact hm.got p hp
 have hfst:(of.map fun x=>(x,(s.get x).1)).map (·.1)=of:=by
  rw[map_map]
  conv=>rhs;rw[←List.map_id of]
  rfl
 have K:=copy_ok hc okt (fun p hp=>by
  have ob:=mem_map.1 hp
  obtain⟨x,hx,rfl⟩:=ob
  exact⟨by rw[←hk];exact get_front (hgot x hx),sm.get x⟩) (by rw[hfst];exact hnd)
 have hpm:=perm_of hnd ordM_nodup hiff
 have hnum:((ordM r.2.m).filter fun x=>decide (t'.stamp x≠t.stamp x)).length=n:=by
  rw[K.num,hfst,Nat.zero_add]
  exact((hpm.filter _).length_eq).symm
 refine⟨K,hnum,fun x hx hst p hp=>?_,fun d2 hd2 _ hf=>?_,by rw[←hnum];exact length_filter_le _ _⟩
 ·have ob:=mem_iff_getElem.1 ((hiff x).2 hx)
  obtain⟨i,hi,hix⟩:=ob
  have hi2:of[i]?=some x:=by rw[getElem?_eq_getElem hi,hix]
  rcases (hG.behind (fun _=>False) (fun q hq=>by cases hq) (fun q hq=>hq.elim)).2 i x (Nat.zero_le _) hi2 p hp with h | h
  ·left
   have ob:=mem_iff_getElem.1 h
   obtain⟨j,hj,hjp⟩:=ob
   rw[length_take] at hj
   rw[getElem_take] at hjp
   have hjo:of[j]?=some p:=by rw[getElem?_eq_getElem (by omega),hjp]
   have h2:=K.laid i (x,(s.get x).1) (by rw[getElem?_map,hi2];rfl) hst j (by omega) (p,(s.get p).1) (by rw[getElem?_map,hjo];rfl)
   exact whole_get (by simp only at h2;rw[h2])
  ·exact .inr h
 ·rw[hd2]
  refine runs_same (by rw[←hd2];exact h0) fun p hp=>?_
  rw[←hd2] at hp
  have hpo:p.1∈of:=(hiff p.1).2 (by rw[ordM_mem];exact mem_map_of_mem hp)
  have h2:=K.all hf (p.1,(s.get p.1).1) (mem_map.2 ⟨p.1,hpo,rfl⟩)
  simp only at h2
  rw[h2,←hgot _ hpo]
theorem abTwo {s t t' t2:AS}{d:U8}{r:Int×WS}{gf of:List (List UInt8)}{kk n n2:Nat}{f f2:Int} (ok:s.Ok) (sm:Small s) (hk:s.k=t.k) (hd:d.length=32) (hr:runs s rmG [rootS d] ws0=r) (h0:r.1=0) (hG:Goes (partsM s r.2.m) [d] [] [] gf of kk) (H:AbOk s t t' r of n f) (hu:usedX t'.X+usedX s.X≤67108864) (hc:copyR (t'.limit 67108864).2 (of.map fun x=>(x,(s.get x).1)) 0=(n2,f2,t2)):(f2=0∨f2=44)∧n2+n≤(ordM r.2.m).length:=by
 have hr2:runs s rmG [rootS d] ws0=(0,r.2):=by rw[hr,←h0]
 have hm:=runs_met hd hr2
 have ob:=goes_met hr2 hm hG
 obtain⟨hnd,hiff,hlen⟩:=ob
 have hgot:∀x∈of,(s.get x).2=0:=fun x hx=>by
  have h1:=(hiff x).1 hx
  rw[ordM_mem] at h1
  have ob:=mem_map.1 h1
  obtain⟨p,hp,rfl⟩:=ob
  exact hm.got p hp
 have hfst:(of.map fun x=>(x,(s.get x).1)).map (·.1)=of:=by
  rw[map_map]
  conv=>rhs;rw[←List.map_id of]
  rfl
 have hlim:(t'.limit 67108864).2 = { t' with cap:=67108864 }:=by
  rw[AS.limit,if_pos (by decide)];rfl
 rw[hlim] at hc
 have ok2:({ t' with cap:=67108864 }:AS).Ok:=by rw[←hlim];exact H.copy.ok.limit _
 have K:=copy_ok hc ok2 (fun p hp=>by
  have ob:=mem_map.1 hp
  obtain⟨x,hx,rfl⟩:=ob
  refine⟨?_,sm.get x⟩
  show frontL _ t'.k=x
  rw[H.copy.k,←hk];exact get_front (hgot x hx)) (by rw[hfst];exact hnd)
 have hsum:((of.map fun x=>(x,(s.get x).1)).map fun p=>p.2.length+32).sum≤usedX s.X:=by
  rw[map_map]
  exact sum_found (f:=fun x=>(s.get x).1.length) ok.sorted hnd fun x hx=>by
   have ob:=get_found (hgot x hx)
   obtain⟨b,hb,hf⟩:=ob
   refine⟨b,hb,?_⟩
   rw[AS.get,hb]
   simp only
   rw[if_pos hf]
 refine⟨?_,?_⟩
 ·rcases K.err with h | h | h
  ·exact .inl h
  ·refine absurd h (K.room ?_)
   show usedX t'.X+_≤67108864
   omega
  ·exact .inr h
 ·have h1:=H.copy.num
  have h2:=K.num
  rw[hfst,Nat.zero_add] at h1 h2
  rw[←hlen,h1,h2,Nat.add_comm]
  refine filter_two fun x hx hp=>?_
  simp only[decide_eq_true_eq] at hp
  have ob:=mem_iff_getElem.1 hx
  obtain⟨i,hi,hix⟩:=ob
  have hi2:of[i]?=some x:=by rw[getElem?_eq_getElem hi,hix]
  have hl:=H.copy.laid i (x,(s.get x).1) (by rw[getElem?_map,hi2];rfl) hp i (Nat.le_refl _) (x,(s.get x).1) (by rw[getElem?_map,hi2];rfl)
  have hth:=K.there (x,(s.get x).1) (mem_map.2 ⟨x,hx,rfl⟩) hl
  simp only at hth
  simp[hth]
def CovD (s:AS) (t t':WS):Prop:=∃n,t'.m=t.m++n∧∀p∈n,p.2=true→∀e∈decL (s.get p.1).1,(e.dig,decide (e.kind=2))∈t'.m
section
variable{s:AS}{rm:Rm}{t u v:WS}
theorem CovD.refl (t:WS):CovD s t t:=⟨[],by simp,fun p hp=>by cases hp⟩
theorem CovD.trans (h:CovD s t u) (k:CovD s u v):CovD s t v:=by
 obtain⟨n,h1,h2⟩:=h
 obtain⟨l,k1,k2⟩:=k
 refine⟨n++l,by rw[k1,h1,append_assoc],fun p hp hd e he=>?_⟩
 rcases mem_append.1 hp with hp | hp
 ·rw[k1]
  exact mem_append_left _ (h2 p hp hd e he)
 ·exact k2 p hp hd e he
theorem CovD.mem (h:CovD s t u){p:List UInt8×Bool} (hd:p∈t.m):p∈u.m:=by
 obtain⟨n,h1,_⟩:=h
 rw[h1]
 exact mem_append_left _ hd
theorem seqS_covD{f:Std→WS→Int×WS}:∀{l:List Std}{t:WS},(∀x∈l,∀t,(f x t).1=0→CovD s t (f x t).2∧(x.d,x.dir)∈(f x t).2.m)→(seqS f l t).1=0→CovD s t (seqS f l t).2∧∀x∈l,(x.d,x.dir)∈(seqS f l t).2.m
 | [],t,_,_=>⟨CovD.refl t,fun x hx=>by cases hx⟩
 | x::l,t,hf,he=>by
  rw[seqS] at he⊢
  by_cases c:(f x t).1≠0
  ·rw[if_pos c] at he;exact absurd he c
  ·rw[if_neg c] at he⊢
   have ob:=hf x (by simp) t (by simpa using c)
   obtain⟨h1,h2⟩:=ob
   have ob:=seqS_covD (fun y hy=>hf y (by simp[hy])) he
   obtain⟨h3,h4⟩:=ob
   refine⟨h1.trans h3,fun y hy=>?_⟩
   rcases mem_cons.1 hy with rfl | hy
   ·exact h3.mem h2
   ·exact h4 y hy
theorem standP_covD:∀(n:Nat){x:Std}{t:WS},(standP s rm n x t).1=0→CovD s t (standP s rm n x t).2∧(x.d,x.dir)∈(standP s rm n x t).2.m
 | 0,x,t,he=>by cases he
 | n+1,x,t,he=>by
  rw[standP] at he⊢
  by_cases c:(visit s rm x t).1≠0
  ·rw[if_pos c] at he;exact absurd he c
  ·rw[if_neg c] at he⊢
   have c0:(visit s rm x t).1=0:=by simpa using c
   have hm:=visit_m c0
   obtain⟨h1,h2⟩:=seqS_covD (s:=s) (f:=fun y u=>standP s rm n y (push y u)) (fun y hy u hu=>by
    have h3:=standP_covD n (x:=y) (t:=push y u) hu
    refine⟨?_,h3.2⟩
    have ob:=h3.1
    obtain⟨l,h4,h5⟩:=ob
    exact⟨l,by rw[h4,push_m],h5⟩) he
   have hin:(x.d,x.dir)∈(visit s rm x t).2.2.m:=by rw[hm];simp
   refine⟨?_,h1.mem hin⟩
   obtain⟨l,h4,h5⟩:=h1
   have ob:=visit_ok c0
   obtain⟨_,_,g0,hk⟩:=ob
   refine⟨(x.d,x.dir)::l,by rw[h4,hm,append_assoc];rfl,fun p hp=>?_⟩
   rcases mem_cons.1 hp with rfl | hp
   ·intro hd e he'
    rcases hk with⟨_,e0,ek⟩ | ⟨e0,_⟩
    ·exact h2 (kidOf x e) (by rw[ek];exact mem_map.2 ⟨e,he',rfl⟩)
    ·rw[e0] at hd;cases hd
   ·exact h5 p hp
end
theorem runs_dirs{s:AS}{d:U8}{t:WS} (h:runs s rmG [rootS d] ws0=(0,t)):(d,true)∈t.m∧∀x,(x,true)∈t.m→∀e∈decL (s.get x).1,e.kind=2→(e.dig,true)∈t.m:=by
 rw[runs_root] at h
 have h0:(standP s rmG 34 (rootS d) ws0).1=0:=by rw[h]
 have ob:=standP_covD 34 h0
 obtain⟨⟨n,h1,h2⟩,h3⟩:=ob
 rw[h] at h1 h2 h3
 have hn:t.m=n:=by rw[h1];rfl
 refine⟨h3,fun x hx e he hk=>?_⟩
 have h4:=h2 (x,true) (by rw[←hn];exact hx) rfl e he
 rw[hk] at h4
 exact h4
def dirL (m:List (List UInt8×Bool)):List (List UInt8):=(m.filter fun p=>p.2).map (·.1)
theorem dirL_mem{m:List (List UInt8×Bool)}{x:U8}:x∈dirL m↔(x,true)∈m:=by
 unfold dirL
 constructor
 ·intro hx
  have ob:=mem_map.1 hx
  obtain⟨⟨a,b⟩,hp,rfl⟩:=ob
  have ob:=mem_filter.1 hp
  obtain⟨h1,h2⟩:=ob
  simp only at h2
  subst h2
  exact h1
 ·exact fun hx=>mem_map.2 ⟨(x,true),mem_filter.2 ⟨hx,rfl⟩,rfl⟩
theorem dirL_len (m:List (List UInt8×Bool)):(dirL m).length≤m.length:=by
 unfold dirL
 rw[length_map]
 exact length_filter_le _ _
end Go.Gx
namespace Go.Gx
open Go.Proofs Go.RowKit
attribute [local irreducible] shaL cutD frontL decL decE
section
variable{α:Type}{a b e f:α}{A B C D A' B' C' D' L L' Lv E Q X:List α}
theorem perm_g1:((f::(A'++(B'++(C'++D'))))++((a::b::e::A)++(B++(C++D)))).Perm ((e::f::a::b::(A++A'))++(B'++(B++((C'++C)++(D'++D))))):=by
 classical exact List.perm_iff_count.2 fun x=>by simp only[List.count_append,List.count_cons];omega
theorem perm_g2:(A++(B++(L++(Q++E)))).Perm (L++(A++(B++(Q++E)))):=by
 classical exact List.perm_iff_count.2 fun x=>by simp only[List.count_append];omega
theorem perm_g3:((L'++(Lv++D'))++(A++(B++(Q++E)))).Perm ((Lv++A)++(B++(L'++(Q++(D'++E))))):=by
 classical exact List.perm_iff_count.2 fun x=>by simp only[List.count_append];omega
theorem perm_g4:(A++(L++(B++(Q++E)))).Perm (L++(A++(B++(Q++E)))):=by
 classical exact List.perm_iff_count.2 fun x=>by simp only[List.count_append];omega
theorem perm_g5:((L'++(Lv++D'))++(A++(B++(Q++E)))).Perm ((Lv++A)++(L'++(B++(Q++(D'++E))))):=by
 classical exact List.perm_iff_count.2 fun x=>by simp only[List.count_append];omega
theorem perm_g6:(A++(B++(L++(Q++E)))).Perm ((B++L)++(A++(Q++E))):=by
 classical exact List.perm_iff_count.2 fun x=>by simp only[List.count_append];omega
theorem perm_g7:(((B'++L')++D')++(A++(Q++E))).Perm (A++(B'++(L'++(Q++(D'++E))))):=by
 classical exact List.perm_iff_count.2 fun x=>by simp only[List.count_append];omega
theorem perm_g8:(A++(B++(L++(Q++E)))).Perm ((L++E)++(A++(B++Q))):=by
 classical exact List.perm_iff_count.2 fun x=>by simp only[List.count_append];omega
theorem perm_g9:(A++(B++(L++(Q++E)))).Perm ((B++E)++(A++(L++Q))):=by
 classical exact List.perm_iff_count.2 fun x=>by simp only[List.count_append];omega
theorem perm_g10:(A++(B++(L++(Q++E)))).Perm (((B++L)++E)++(A++Q)):=by
 classical exact List.perm_iff_count.2 fun x=>by simp only[List.count_append];omega
theorem perm_g12:(A++(B++(L++((C++D)++E)))).Perm ((C++E)++(A++(B++(L++D)))):=by
 classical exact List.perm_iff_count.2 fun x=>by simp only[List.count_append];omega
end
section
variable{S:List Nat}{A Lt L Q E L' Lv D' L2 O2 X Y:List (Nat×Obj)}{w0 w w':World}
theorem Lives.pick (hs:Step S X w0 w) (h:X.Perm (L++Y)):Lives L w:=Step.own (hs.perm h)
theorem Ab.s (hs:Step S (A++(Lt++(L++(Q++E)))) w0 w) (hq:Step (L.map (·.1)) (L'++(Lv++D')) w w'):Step S ((Lv++A)++(Lt++(L'++(Q++(D'++E))))) w0 w':=(Step.call (hs.perm perm_g2) hq).perm perm_g3
theorem Ab.t (hs:Step S (A++(Lt++(L++(Q++E)))) w0 w) (hq:Step (Lt.map (·.1)) (L'++(Lv++D')) w w'):Step S ((Lv++A)++(L'++(L++(Q++(D'++E))))) w0 w':=(Step.call (hs.perm perm_g4) hq).perm perm_g5
theorem Ab.set (hs:Step S (A++(Lt++(L++(Q++E)))) w0 w) (hq:Step (Lt.map (·.1)) L' w w'):Step S (A++(L'++(L++(Q++E)))) w0 w':=(Step.call (hs.perm perm_g4) hq).perm perm_g4.symm
theorem Ab.cp (hs:Step S (A++(Lt++(L++(Q++E)))) w0 w) (hq:Step ((Lt++L).map (·.1)) ((L2++O2)++D') w w'):Step S (A++(L2++(O2++(Q++(D'++E))))) w0 w':=(Step.call (hs.perm perm_g6) hq).perm perm_g7
theorem Ab.sl (hs:Step S (A++(Lt++(L++(Q++E)))) w0 w):Lives (L++E) w:=Step.own (hs.perm perm_g8)
theorem Ab.tl (hs:Step S (A++(Lt++(L++(Q++E)))) w0 w):Lives (Lt++E) w:=Step.own (hs.perm perm_g9)
theorem Ab.two (hs:Step S (A++(Lt++(L++(Q++E)))) w0 w):Lives ((Lt++L)++E) w:=Step.own (hs.perm perm_g10)
end
theorem cp2_same{r:Int×WS}{s t:AS}{of:List (List UInt8)}{G:Nat} (h:s.k=t.k):cp2 r (s.gotN G) t of=(cpR r s t of,s.gotN (G+r.2.g)):=by
 unfold cp2
 rw[if_pos (show(s.gotN G).k=t.k from h),gotN_add]
 rfl
theorem Wkd.gotN{s:AS}{d:List UInt8}{r:Int×WS}{gf of:List (List UInt8)}{k:Nat} (h:Wkd s d r gf of k) (G:Nat):Wkd (s.gotN G) d r gf of k:=
 ⟨fun h0=>⟨(h.met h0).head,(h.met h0).got,(h.met h0).len,(h.met h0).sub⟩,h.len,h.m32,h.go⟩
theorem filter_take{α:Type}{p:α→Bool}{l:List α}{i:Nat}{x:α} (h:l[i]?=some x):((l.take (i+1)).filter p).length=((l.take i).filter p).length+(if p x then 1 else 0):=by
 rw[List.take_add_one,h]
 simp only[Option.toList_some,List.filter_append,List.length_append]
 cases hp:p x <;> simp[List.filter_cons,hp]
section
variable{wd z:Int}{x y:Stup}
set_option maxHeartbeats 64000000 in
theorem flowAbroad_spec (w0:World) (hx:x.Ok w0) (hy:y.Ok w0) (hz : -9223372036854775808≤z∧z≤9223372036854775807) :
  Calls Tryz.prog 13 #[.int .i64 wd,.agg x.cells.toArray,.agg y.cells.toArray,.int .i64 z] w0 (Ret0 (.bool true) w0):=by
 have hs:Step [] [] w0 w0:=Step.refl w0
 have hcl:x.cells.length=6:=rfl
 have hcy:y.cells.length=6:=rfl
 by_cases hbad:(wd<1∨32<wd)∨¬(0≤x.cap∧x.cap≤67108864)
 ·refine calls (n:=305) Tryz.func13 rfl rfl rfl ?_
  refine sr<|WL.box (cs:=x.cells) rfl rfl rfl hs (fun b5 w hs=>?_)
  refine WL.box (cs:=y.cells) rfl rfl rfl hs (fun b6 w hs=>?_)
  refine wA<|wZ<|cq<|sr<|wE rfl (run_call en15 rfl rfl) (known8_spec _) ?_
  rintro e w ⟨rfl,hq⟩
  refine⟨_,rfl,?_⟩
  replace hs:=hs.callE hq
  first | refine WL.val rfl (run_notB rfl) ?_ | refine WL.val rfl (run_not rfl) ?_
  refine wZ ?_
  first | refine CW.condP rfl (fun h=>?_) (fun h=>?_) | refine CW.cond rfl (fun h=>?_) (fun h=>?_)
  ·cases h
  refine ck<|sr<|wm<|wV (run_loadN ty28 rfl hcl hs.a1)<|wE rfl (run_call en16 rfl rfl) (made8_bad hbad rfl _) ?_
  rintro e w ⟨rfl,hq⟩
  refine⟨_,rfl,?_⟩
  replace hs:=hs.callE hq
  refine wm<|wx rfl rfl<|wx rfl rfl<|wA<|wA<|wZ<|cq<|sr<|wm ?_
  first | refine WL.val rfl (run_notB rfl) ?_ | refine WL.val rfl (run_not rfl) ?_
  refine wm ?_
  first | (refine WL.yes rfl rfl rfl ?_;refine WL.val rfl (run_move) ?_) | refine WL.no rfl rfl rfl (.inl rfl) ?_ | refine WL.no rfl rfl rfl (.inr rfl) ?_
  refine wy<|wV (run_nilNil u32 rfl rfl) ?_
  first | refine WL.val rfl (run_pickT rfl) ?_ | refine WL.val rfl (run_pickF rfl) ?_
  refine wZ ?_
  first | refine CW.condP rfl (fun h=>?_) (fun h=>?_) | refine CW.cond rfl (fun h=>?_) (fun h=>?_)
  ·refine sr<|wm<|wA<|wZ<|CW.ret ?_
   refine fin_ret1 rfl ?_
   exact⟨rfl,hs.clear⟩
  ·cases h
 have ob:∃k:Nat,wd=k:=⟨wd.toNat,by omega⟩
 obtain⟨k,rfl⟩:=ob
 have ob:∃c:Nat,x.cap=c:=⟨x.cap.toNat,by omega⟩
 obtain⟨c,hc⟩:=ob
 refine calls (n:=305) Tryz.func13 rfl rfl rfl ?_
 refine sr<|WL.box (cs:=x.cells) rfl rfl rfl hs (fun b5 w hs=>?_)
 refine WL.box (cs:=y.cells) rfl rfl rfl hs (fun b6 w hs=>?_)
 refine wA<|wZ<|cq<|sr<|wE rfl (run_call en15 rfl rfl) (known8_spec _) ?_
 rintro e w ⟨rfl,hq⟩
 refine⟨_,rfl,?_⟩
 replace hs:=hs.callE hq
 first | refine WL.val rfl (run_notB rfl) ?_ | refine WL.val rfl (run_not rfl) ?_
 refine wZ ?_
 first | refine CW.condP rfl (fun h=>?_) (fun h=>?_) | refine CW.cond rfl (fun h=>?_) (fun h=>?_)
 ·cases h
 refine ck<|sr<|wm<|wV (run_loadN ty28 rfl hcl hs.a1)<|wE rfl (run_call en16 rfl rfl) (made8_spec (by omega) (by omega) (by omega) hc _ (hx.step0 hs.clear)) ?_
 rintro e w ⟨bw,bp,br,rfl,s,roots,vR,LR,L,R,D,hM,few,hsk,hrl⟩
 refine⟨_,rfl,?_⟩
 have hs2:=Step.call0 hs hM.hs
 replace hs:=Step.perm hs2 perm_w1
 refine wm<|wx rfl rfl<|wx rfl rfl<|wA<|wA<|wZ ?_
 have ok:=hM.ok
 refine cq<|sr<|wm ?_
 first | refine WL.val rfl (run_notB rfl) ?_ | refine WL.val rfl (run_not rfl) ?_
 refine wm ?_
 first | (refine WL.yes rfl rfl rfl ?_;refine WL.val rfl (run_move) ?_) | refine WL.no rfl rfl rfl (.inl rfl) ?_ | refine WL.no rfl rfl rfl (.inr rfl) ?_
 refine wy<|wV (run_ptrNil u32 rfl rfl) ?_
 first | refine WL.val rfl (run_pickT rfl) ?_ | refine WL.val rfl (run_pickF rfl) ?_
 refine wZ ?_
 first | refine CW.condP rfl (fun h=>?_) (fun h=>?_) | refine CW.cond rfl (fun h=>?_) (fun h=>?_)
 ·cases h
 by_cases hbad2:((k:Int)<1∨32<(k:Int))∨¬(0≤y.cap∧y.cap≤67108864)
 ·refine ck<|sr<|wm<|wV (run_loadN ty28 rfl hcy hs.a0)<|wE rfl (run_call en16 rfl rfl) (made8_bad hbad2 rfl _) ?_
  rintro e w ⟨rfl,hq⟩
  refine⟨_,rfl,?_⟩
  replace hs:=hs.callE hq
  refine wm<|wx rfl rfl<|wx rfl rfl<|wA<|wA<|wZ<|cq<|sr<|wm ?_
  first | refine WL.val rfl (run_notB rfl) ?_ | refine WL.val rfl (run_not rfl) ?_
  refine wm ?_
  first | (refine WL.yes rfl rfl rfl ?_;refine WL.val rfl (run_move) ?_) | refine WL.no rfl rfl rfl (.inl rfl) ?_ | refine WL.no rfl rfl rfl (.inr rfl) ?_
  refine wy<|wV (run_nilNil u32 rfl rfl) ?_
  first | refine WL.val rfl (run_pickT rfl) ?_ | refine WL.val rfl (run_pickF rfl) ?_
  refine wZ ?_
  first | refine CW.condP rfl (fun h=>?_) (fun h=>?_) | refine CW.cond rfl (fun h=>?_) (fun h=>?_)
  ·refine sr<|wm<|wA<|wZ<|CW.ret ?_
   refine fin_ret1 rfl ?_
   exact⟨rfl,hs.clear⟩
  ·cases h
 have ob:∃c:Nat,y.cap=c:=⟨y.cap.toNat,by omega⟩
 obtain⟨c2,hc2⟩:=ob
 clear hs2
 refine ck<|sr<|wm<|wV (run_loadN ty28 rfl hcy hs.a0)<|wE rfl (run_call en16 rfl rfl) (made8_spec (by omega) (by omega) (by omega) hc2 _ (hy.step0 hs.clear)) ?_
 rintro e w ⟨vw,vp,vr,rfl,t,troots,vT,LT,Lt,Rt,Dt,hMt,fewt,hskt,hrlt⟩
 refine⟨_,rfl,?_⟩
 have hs2:=Step.call0 hs hMt.hs
 replace hs:=Step.perm hs2 perm_g1
 refine wm<|wx rfl rfl<|wx rfl rfl<|wA<|wA<|wZ<|cq<|sr<|wm ?_
 first | refine WL.val rfl (run_notB rfl) ?_ | refine WL.val rfl (run_not rfl) ?_
 refine wm ?_
 first | (refine WL.yes rfl rfl rfl ?_;refine WL.val rfl (run_move) ?_) | refine WL.no rfl rfl rfl (.inl rfl) ?_ | refine WL.no rfl rfl rfl (.inr rfl) ?_
 refine wy<|wV (run_ptrNil u32 rfl rfl) ?_
 first | refine WL.val rfl (run_pickT rfl) ?_ | refine WL.val rfl (run_pickF rfl) ?_
 refine wZ ?_
 first | refine CW.condP rfl (fun h=>?_) (fun h=>?_) | refine CW.cond rfl (fun h=>?_) (fun h=>?_)
 ·cases h
 have okt:=hMt.ok
 have hsm:=hM.small
 have hkk:s.k=t.k:=by rw[hsk,hskt]
 have ob:∃d,rootF roots s.X z=d:=⟨_,rfl⟩
 obtain⟨d,hdE⟩:=ob
 have hd32:=rootF_len (z:=z) hM.r32 ok.len
 rw[hdE] at hd32
 have hzl:(u8s d).length=32:=by rw[u8s,List.length_map,hd32]
 have ob:∃r,runs s rmG [rootS d] ws0=r:=⟨_,rfl⟩
 obtain⟨r,hr⟩:=ob
 have hr':runs s (rmOf 65536 32 67108864) [rootS d] ws0=r:=hr
 have hrg:=runs_g (s:=s) rmG_ok d
 have ob:=runs_wkd (s:=s) (rn:=65536) (rd:=32) (rb:=67108864) hd32 rmG_ok
 obtain⟨gf,of,kg,W,hofl⟩:=ob
 have hgd:=standP_good (s:=s) rmG_ok 34 (x:=rootS d) (t:=ws0) (ws0_good.mono (by omega))
 rw[←runs_root] at hgd
 rw[hr] at hrg hgd
 rw[hr'] at W
 have hroot:∀{w:World}{L1 L2 D1:List (Nat×Obj)},Step [] (((bw,blk 42 (w8C bp br vR))::(vw,blk 42 (w8C vp vr vT))::(b6,blk 28 y.cells)::(b5,blk 28 x.cells)::(LR++LT))++(L1++(L2++((Rt++R)++D1)))) w0 w→Calls Tryz.prog 18 #[.pointer (some ⟨bw,0,none⟩),.int .i64 z] w (Ret0 (.agg (u8s d).toArray) w):=fun {w L1 L2 D1} h=>by
  have h2:=root8_spec (z:=z) (w:=w) (bw:=bw) (bp:=bp) (br:=br) (vR:=vR) (roots:=roots) (At.of_blk (h.has (bw,blk 42 (w8C bp br vR)) (by simp))) (Dgs.own hM.vr (fun p hp=>h.has p (by simp[hp])) hM.r32 (by omega)) hM.rr (fun p hp=>h.has p (by simp[hp])) ok (by omega) hz
  rw[hdE] at h2;exact h2
 have hPs0:PRep bp s (Dt++D) L:=hM.pr.mono mem_right
 have hPt0:PRep vp t (Dt++D) Lt:=hMt.pr.mono fun p hp=>List.mem_append_left _ hp
 have hRt0:RRep vr t (Dt++D) Rt:=hMt.rr.mono fun p hp=>List.mem_append_left _ hp
 have ob:∃E0,Dt++D=E0:=⟨_,rfl⟩
 obtain⟨E0,hE0⟩:=ob
 rw[hE0] at hs hPs0 hPt0 hRt0
 have hload:=fun{w:World} h=>load_spec (w0:=w) (rn:=65536) (rd:=32) (rb:=67108864) hPs0 ok few (by omega) hd32 rmG_ok h
 have hreach:=fun{w:World}{G:Nat}{E L:List (Nat×Obj)} (hG:G≤1000000) (hP:PRep bp (s.gotN G) E L) h=>reach_spec (w0:=w) (rn:=65536) (rd:=32) (rb:=67108864) hP (ok.gotN G) (few.gotN G) (by omega) hd32 rmG_ok h
 have hcopy:=fun{w:World}{G:Nat}{E L Lt:List (Nat×Obj)}{t:AS} (hG:G≤1000000) (hk:s.k=t.k) (okt:t.Ok) (fewt:t.Few 101000000) (hT:PRep vp t E Lt) (hP:PRep bp (s.gotN G) E L) h=>copyTwo_spec (w0:=w) (rn:=65536) (rd:=32) (rb:=67108864) (gf:=gf) (of:=of) (k:=kg) (N:=101000000) (by rw[runs_gotN,hr'];exact W.gotN G) (ok.gotN G) okt ((few.gotN G).mono (by omega)) fewt (by omega) hd32 rmG_ok hT hP h
 simp only[hr',runs_gotN,gotN_add] at hload hreach hcopy
 refine ck<|sr<|wm<|wm<|wE rfl (run_call en18 rfl rfl) (hroot hs) ?_
 rintro e w ⟨rfl,hq⟩
 refine⟨_,rfl,?_⟩
 replace hs:=hs.callE hq
 refine WL.alloc ty44 rfl hs (fun b12 w hs=>?_)
 first | refine WL.storeAll ty44 rfl rfl ((hzl)) ((Cells1.u8s _)) hs (by rfl) (fun w hs=>?_) | refine WL.storeAll_1 ty44 rfl rfl ((hzl)) ((Cells1.u8s _)) hs (by first | rfl | assumption) (fun w hs=>?_) | refine WL.storeAll_2 ty44 rfl rfl ((hzl)) ((Cells1.u8s _)) hs (by first | rfl | assumption) (fun w hs=>?_) | refine WL.storeAll_3 ty44 rfl rfl ((hzl)) ((Cells1.u8s _)) hs (by first | rfl | assumption) (fun w hs=>?_) | refine WL.storeAll_4 ty44 rfl rfl ((hzl)) ((Cells1.u8s _)) hs (by first | rfl | assumption) (fun w hs=>?_) | refine WL.storeAll ty44 rfl rfl ((hzl)) ((Cells1.u8s _)) hs (by first | rfl | assumption) (fun w hs=>?_)
 refine wZ ?_
 replace hs:Step [] (((b12,blk 44 (u8s d))::(bw,blk 42 (w8C bp br vR))::(vw,blk 42 (w8C vp vr vT))::(b6,blk 28 y.cells)::(b5,blk 28 x.cells)::(LR++LT))++(Lt++(L++((Rt++R)++E0)))) w0 w:=hs
 have ob:∃A0,((b12,blk 44 (u8s d))::(bw,blk 42 (w8C bp br vR))::(vw,blk 42 (w8C vp vr vT))::(b6,blk 28 y.cells)::(b5,blk 28 x.cells)::(LR++LT))=A0:=⟨_,rfl⟩
 obtain⟨A0,hA0⟩:=ob
 have hbwA:(bw,blk 42 (w8C bp br vR))∈A0:=by rw[←hA0];simp
 have hvwA:(vw,blk 42 (w8C vp vr vT))∈A0:=by rw[←hA0];simp
 have hb12A:(b12,blk 44 (u8s d))∈A0:=by rw[←hA0];simp
 rw[hA0] at hs
 clear hroot hs2
 have ob:∃n f t',cpR r s t of=(n,f,t'):=⟨_,_,_,rfl⟩
 obtain⟨n,f,t',hcr⟩:=ob
 refine cq<|CW.any (A:=fun w=>w.heap[bw]?=some (blk 42 (w8C bp br vR))∧w.heap[vw]?=some (blk 42 (w8C vp vr vT))∧w.heap[b12]?=some (blk 44 (u8s d))) (C:=fun w=>w.heap[bw]?=some (blk 42 (w8C bp br vR))∧w.heap[vw]?=some (blk 42 (w8C vp vr vT))∧w.heap[b12]?=some (blk 44 (u8s d))) 1000000 12 mixedP rfl ?_
 replace hs:=hs.drew
 refine aM 0 rfl<|aV 1 rfl (fun w hs=>run_nilCheck rfl)<|aV 2 rfl (fun w hs=>run_field (o':=0) u42 rfl ty39 rfl rfl rfl)<|aV 3 rfl (fun w hs=>run_load1 ty39 rfl ((At.of_blk hs.1).cell (j:=0) rfl))<|aV 4 rfl (fun w hs=>run_loadN ty44 rfl hzl (At.of_blk hs.2.2))<|AL.one 5 (by kernel_rfl) rfl (⟨hs.has (bw,blk 42 (w8C bp br vR)) (by simp[hbwA]),hs.has (vw,blk 42 (w8C vp vr vT)) (by simp[hvwA]),hs.has (b12,blk 44 (u8s d)) (by simp[hb12A])⟩) (⟨hs.has (bw,blk 42 (w8C bp br vR)) (by simp[hbwA]),hs.has (vw,blk 42 (w8C vp vr vT)) (by simp[hvwA]),hs.has (b12,blk 44 (u8s d)) (by simp[hb12A])⟩) ?_
 refine wE rfl (run_call en28 rfl rfl) (great_spec _) ?_
 rintro e w ⟨rfl,hq⟩
 refine⟨_,rfl,?_⟩
 replace hs:=hs.callE hq
 refine wZ<|⟨rfl,?_⟩
 refine AL.one 6 (by kernel_rfl) rfl (⟨hs.has (bw,blk 42 (w8C bp br vR)) (by simp[hbwA]),hs.has (vw,blk 42 (w8C vp vr vT)) (by simp[hvwA]),hs.has (b12,blk 44 (u8s d)) (by simp[hb12A])⟩) (⟨hs.has (bw,blk 42 (w8C bp br vR)) (by simp[hbwA]),hs.has (vw,blk 42 (w8C vp vr vT)) (by simp[hvwA]),hs.has (b12,blk 44 (u8s d)) (by simp[hb12A])⟩) ?_
 refine wE rfl (run_call en27 rfl rfl) (hload (Ab.sl hs)) ?_
 rintro e w ⟨vl,T,Ll,L1,D1,rfl,hP1,hOl,hTl,hTn,hTD,hq1⟩
 refine⟨_,rfl,?_⟩
 replace hs:=Ab.s hs hq1
 refine wZ<|⟨rfl,?_⟩
 refine aM 7 rfl<|aV 8 rfl (fun w hs=>run_extract rfl rfl)<|aV 9 rfl (fun w hs=>run_extract rfl rfl)<|aV 10 rfl (fun w hs=>run_assign)<|aV 11 rfl (fun w hs=>run_assign)<|AL.end (by kernel_rfl) (⟨hs.has (bw,blk 42 (w8C bp br vR)) (by simp[hbwA]),hs.has (vw,blk 42 (w8C vp vr vT)) (by simp[hvwA]),hs.has (b12,blk 44 (u8s d)) (by simp[hb12A])⟩) (⟨hs.has (bw,blk 42 (w8C bp br vR)) (by simp[hbwA]),hs.has (vw,blk 42 (w8C vp vr vT)) (by simp[hvwA]),hs.has (b12,blk 44 (u8s d)) (by simp[hb12A])⟩) ?_
 have hPt1:PRep vp t (D1++E0) Lt:=hPt0.mono mem_right
 have hcp:=fun{w:World} h=>hcopy (w:=w) (t:=t) (by omega) hkk okt (fewt.mono (by omega)) hPt1 hP1 h
 simp only[cp2_same hkk,hcr] at hcp
 refine sr<|wm<|wn rfl<|wF 0 u42 rfl ty39 rfl<|wl ty39 rfl (((At.of_blk (hs.has (vw,blk 42 (w8C vp vr vT)) (by simp[hvwA]))).cell (j:=0) rfl))<|wE rfl (run_call en48 rfl rfl) (twin_abs hPt1 okt (Ab.tl hs)) ?_
 rintro e w ⟨bt,Lw,rfl,hPw,hq⟩
 refine⟨_,rfl,?_⟩
 replace hs:Step [] ((Lw++(Ll++A0))++(Lt++(L1++((Rt++R)++(D1++E0))))) w0 w:=by rw[List.append_assoc];exact Step.call0 hs hq
 refine wA<|wZ<|cq<|sr<|wm<|wV (run_ptrNil u39 rfl rfl)<|wZ ?_
 first | refine CW.condP rfl (fun h=>?_) (fun h=>?_) | refine CW.cond rfl (fun h=>?_) (fun h=>?_)
 ·cases h
 refine ck<|cq<|CW.any (A:=fun w=>w.heap[bw]?=some (blk 42 (w8C bp br vR))∧w.heap[vw]?=some (blk 42 (w8C vp vr vT))∧w.heap[b12]?=some (blk 44 (u8s d))) (C:=fun w=>w.heap[bw]?=some (blk 42 (w8C bp br vR))∧w.heap[vw]?=some (blk 42 (w8C vp vr vT))∧w.heap[b12]?=some (blk 44 (u8s d))) 1000000 16 mixedP rfl ?_
 replace hs:=hs.drew
 refine aM 0 rfl<|aV 1 rfl (fun w hs=>run_nilCheck rfl)<|aV 2 rfl (fun w hs=>run_field (o':=0) u42 rfl ty39 rfl rfl rfl)<|aV 3 rfl (fun w hs=>run_load1 ty39 rfl ((At.of_blk hs.1).cell (j:=0) rfl))<|aM 4 rfl<|aV 5 rfl (fun w hs=>run_nilCheck rfl)<|aV 6 rfl (fun w hs=>run_field (o':=0) u42 rfl ty39 rfl rfl rfl)<|aV 7 rfl (fun w hs=>run_load1 ty39 rfl ((At.of_blk hs.2.1).cell (j:=0) rfl))<|aV 8 rfl (fun w hs=>run_loadN ty44 rfl hzl (At.of_blk hs.2.2))<|AL.one 9 (by kernel_rfl) rfl (⟨hs.has (bw,blk 42 (w8C bp br vR)) (by simp[hbwA]),hs.has (vw,blk 42 (w8C vp vr vT)) (by simp[hvwA]),hs.has (b12,blk 44 (u8s d)) (by simp[hb12A])⟩) (⟨hs.has (bw,blk 42 (w8C bp br vR)) (by simp[hbwA]),hs.has (vw,blk 42 (w8C vp vr vT)) (by simp[hvwA]),hs.has (b12,blk 44 (u8s d)) (by simp[hb12A])⟩) ?_
 refine wE rfl (run_call en28 rfl rfl) (great_spec _) ?_
 rintro e w ⟨rfl,hq⟩
 refine⟨_,rfl,?_⟩
 replace hs:=hs.callE hq
 refine wZ<|⟨rfl,?_⟩
 refine AL.one 10 (by kernel_rfl) rfl (⟨hs.has (bw,blk 42 (w8C bp br vR)) (by simp[hbwA]),hs.has (vw,blk 42 (w8C vp vr vT)) (by simp[hvwA]),hs.has (b12,blk 44 (u8s d)) (by simp[hb12A])⟩) (⟨hs.has (bw,blk 42 (w8C bp br vR)) (by simp[hbwA]),hs.has (vw,blk 42 (w8C vp vr vT)) (by simp[hvwA]),hs.has (b12,blk 44 (u8s d)) (by simp[hb12A])⟩) ?_
 refine wE rfl (run_call en25 rfl rfl) (hcp (Ab.two hs)) ?_
 rintro e w ⟨L2,O2,D2,rfl,hPt2,hPs2,hq2⟩
 refine⟨_,rfl,?_⟩
 replace hs:=Ab.cp hs hq2
 refine wZ<|⟨rfl,?_⟩
 refine aM 11 rfl<|aV 12 rfl (fun w hs=>run_extract rfl rfl)<|aV 13 rfl (fun w hs=>run_extract rfl rfl)<|aV 14 rfl (fun w hs=>run_assign)<|aV 15 rfl (fun w hs=>run_assign)<|AL.end (by kernel_rfl) (⟨hs.has (bw,blk 42 (w8C bp br vR)) (by simp[hbwA]),hs.has (vw,blk 42 (w8C vp vr vT)) (by simp[hvwA]),hs.has (b12,blk 44 (u8s d)) (by simp[hb12A])⟩) (⟨hs.has (bw,blk 42 (w8C bp br vR)) (by simp[hbwA]),hs.has (vw,blk 42 (w8C vp vr vT)) (by simp[hvwA]),hs.has (b12,blk 44 (u8s d)) (by simp[hb12A])⟩) ?_
 by_cases he:r.1≠0
 ·have hcb:=cpR_bad (s:=s) (t:=t) (of:=of) he
  rw[hcr] at hcb
  have hcb3:n=0∧f=r.1∧t'=t:=by
   simp only[Prod.mk.injEq] at hcb
   exact hcb
  have hn0:=hcb3.1
  have hf0:=hcb3.2.1
  have ht0:=hcb3.2.2
  rw[ht0] at hPt2
  have hal:=fun{w:World} h1 h2=>alike8_spec (w0:=w) hPt2 (hRt0.mono (D':=D2++(D1++E0)) fun p hp=>List.mem_append_right _ (List.mem_append_right _ hp)) okt h1 h2
  refine cq<|sr<|wm<|wV (run_bT (run_neq rfl rfl) (by exact he))<|wZ ?_
  first | refine CW.condP rfl (fun h=>?_) (fun h=>?_) | refine CW.cond rfl (fun h=>?_) (fun h=>?_)
  ·refine cq<|CW.any (A:=fun w=>w.heap[bw]?=some (blk 42 (w8C bp br vR))∧w.heap[vw]?=some (blk 42 (w8C vp vr vT))∧w.heap[b12]?=some (blk 44 (u8s d))) (C:=fun w=>w.heap[bw]?=some (blk 42 (w8C bp br vR))∧w.heap[vw]?=some (blk 42 (w8C vp vr vT))∧w.heap[b12]?=some (blk 44 (u8s d))) 1000000 19 mixedP rfl ?_
   replace hs:=hs.drew
   refine aM 0 rfl<|aM 1 rfl<|aV 2 rfl (fun w hs=>run_bT (run_eql rfl rfl) (by exact hf0))<|aM 3 rfl<|AL.valY 4 rfl (by kernel_rfl) rfl rfl rfl rfl (fun w hs=>run_move) ?_
   refine AL.valY 5 rfl (by kernel_rfl) rfl rfl rfl rfl (fun w hs=>run_bT (run_eql rfl rfl) (by exact congrArg Int.ofNat hn0)) ?_
   first | refine AL.val 6 rfl (by kernel_rfl) rfl (fun w hs=>run_pickT rfl) ?_ | refine AL.val 6 rfl (by kernel_rfl) rfl (fun w hs=>run_pickF rfl) ?_
   refine aM 7 rfl<|AL.valY 8 rfl (by kernel_rfl) rfl rfl rfl rfl (fun w hs=>run_move) ?_
   refine AL.valY 9 rfl (by kernel_rfl) rfl rfl rfl rfl (fun w hs=>run_nilCheck rfl) ?_
   refine AL.valY 10 rfl (by kernel_rfl) rfl rfl rfl rfl (fun w hs=>run_field (o':=0) u42 rfl ty39 rfl rfl rfl) ?_
   refine AL.valY 11 rfl (by kernel_rfl) rfl rfl rfl rfl (fun w hs=>run_load1 ty39 rfl ((At.of_blk hs.2.1).cell (j:=0) rfl)) ?_
   refine AL.valY 12 rfl (by kernel_rfl) rfl rfl rfl rfl (fun w hs=>run_move) ?_
   refine AL.valY 13 rfl (by kernel_rfl) rfl rfl rfl rfl (fun w hs=>run_nilCheck rfl) ?_
   refine AL.valY 14 rfl (by kernel_rfl) rfl rfl rfl rfl (fun w hs=>run_field (o':=1) u42 rfl ty40 rfl rfl rfl) ?_
   refine AL.valY 15 rfl (by kernel_rfl) rfl rfl rfl rfl (fun w hs=>run_load1 ty40 rfl ((At.of_blk hs.2.1).cell (j:=1) rfl)) ?_
   refine AL.one 16 (by kernel_rfl) rfl (⟨hs.has (bw,blk 42 (w8C bp br vR)) (by simp[hbwA]),hs.has (vw,blk 42 (w8C vp vr vT)) (by simp[hvwA]),hs.has (b12,blk 44 (u8s d)) (by simp[hb12A])⟩) (⟨hs.has (bw,blk 42 (w8C bp br vR)) (by simp[hbwA]),hs.has (vw,blk 42 (w8C vp vr vT)) (by simp[hvwA]),hs.has (b12,blk 44 (u8s d)) (by simp[hb12A])⟩) ?_
   refine wy<|wE rfl (run_call en22 rfl rfl) (hal (Ab.tl hs) (Lives.pick hs perm_g12)) ?_
   rintro e w ⟨rfl,hq⟩
   refine⟨_,rfl,?_⟩
   replace hs:=hs.callE hq
   refine wZ<|⟨rfl,?_⟩
   first | refine AL.val 17 rfl (by kernel_rfl) rfl (fun w hs=>run_pickT rfl) ?_ | refine AL.val 17 rfl (by kernel_rfl) rfl (fun w hs=>run_pickF rfl) ?_
   refine aV 18 rfl (fun w hs=>run_assign)<|AL.end (by kernel_rfl) (⟨hs.has (bw,blk 42 (w8C bp br vR)) (by simp[hbwA]),hs.has (vw,blk 42 (w8C vp vr vT)) (by simp[hvwA]),hs.has (b12,blk 44 (u8s d)) (by simp[hb12A])⟩) (⟨hs.has (bw,blk 42 (w8C bp br vR)) (by simp[hbwA]),hs.has (vw,blk 42 (w8C vp vr vT)) (by simp[hvwA]),hs.has (b12,blk 44 (u8s d)) (by simp[hb12A])⟩) ?_
   refine CW.ret ?_
   refine fin_ret1 rfl ?_
   exact⟨rfl,hs.clear⟩
  ·cases h
 replace he:r.1=0:=by simpa using he
 have hco:copyR t (of.map fun x=>(x,(s.get x).1)) 0=(n,f,t'):=by rw[←cpR_ok he];exact hcr
 have H:=abOk (t:=t) (t':=t') ok hsm okt hkk hd32 hr he (W.go he) hco
 have ob:∃l0,ordM r.2.m=l0:=⟨_,rfl⟩
 obtain⟨l0,hl0⟩:=ob
 have hmE:reachL r=l0:=by rw[reachL,if_pos he,hl0]
 refine cq<|sr<|wm<|wV (run_bF (run_neq rfl rfl) (by exact fun h=>h he))<|wZ ?_
 first | refine CW.condP rfl (fun h=>?_) (fun h=>?_) | refine CW.cond rfl (fun h=>?_) (fun h=>?_)
 ·cases h
 refine ck<|cq<|CW.any (A:=fun w=>w.heap[bw]?=some (blk 42 (w8C bp br vR))∧w.heap[vw]?=some (blk 42 (w8C vp vr vT))∧w.heap[b12]?=some (blk 44 (u8s d))) (C:=fun w=>w.heap[bw]?=some (blk 42 (w8C bp br vR))∧w.heap[vw]?=some (blk 42 (w8C vp vr vT))∧w.heap[b12]?=some (blk 44 (u8s d))) 1000000 12 mixedP rfl ?_
 replace hs:=hs.drew
 refine aM 0 rfl<|aV 1 rfl (fun w hs=>run_nilCheck rfl)<|aV 2 rfl (fun w hs=>run_field (o':=0) u42 rfl ty39 rfl rfl rfl)<|aV 3 rfl (fun w hs=>run_load1 ty39 rfl ((At.of_blk hs.1).cell (j:=0) rfl))<|aV 4 rfl (fun w hs=>run_loadN ty44 rfl hzl (At.of_blk hs.2.2))<|AL.one 5 (by kernel_rfl) rfl (⟨hs.has (bw,blk 42 (w8C bp br vR)) (by simp[hbwA]),hs.has (vw,blk 42 (w8C vp vr vT)) (by simp[hvwA]),hs.has (b12,blk 44 (u8s d)) (by simp[hb12A])⟩) (⟨hs.has (bw,blk 42 (w8C bp br vR)) (by simp[hbwA]),hs.has (vw,blk 42 (w8C vp vr vT)) (by simp[hvwA]),hs.has (b12,blk 44 (u8s d)) (by simp[hb12A])⟩) ?_
 refine wE rfl (run_call en28 rfl rfl) (great_spec _) ?_
 rintro e w ⟨rfl,hq⟩
 refine⟨_,rfl,?_⟩
 replace hs:=hs.callE hq
 refine wZ<|⟨rfl,?_⟩
 refine AL.one 6 (by kernel_rfl) rfl (⟨hs.has (bw,blk 42 (w8C bp br vR)) (by simp[hbwA]),hs.has (vw,blk 42 (w8C vp vr vT)) (by simp[hvwA]),hs.has (b12,blk 44 (u8s d)) (by simp[hb12A])⟩) (⟨hs.has (bw,blk 42 (w8C bp br vR)) (by simp[hbwA]),hs.has (vw,blk 42 (w8C vp vr vT)) (by simp[hvwA]),hs.has (b12,blk 44 (u8s d)) (by simp[hb12A])⟩) ?_
 refine wE rfl (run_call en17 rfl rfl) (hreach (by omega) hPs2 (Ab.sl hs)) ?_
 rintro e w ⟨vm,Lm,L3,D3,rfl,hPs3,hvm,hq3⟩
 refine⟨_,rfl,?_⟩
 replace hs:=Ab.s hs hq3
 refine wZ<|⟨rfl,?_⟩
 refine aM 7 rfl<|aV 8 rfl (fun w hs=>run_extract rfl rfl)<|aV 9 rfl (fun w hs=>run_extract rfl rfl)<|aV 10 rfl (fun w hs=>run_assign)<|aV 11 rfl (fun w hs=>run_assign)<|AL.end (by kernel_rfl) (⟨hs.has (bw,blk 42 (w8C bp br vR)) (by simp[hbwA]),hs.has (vw,blk 42 (w8C vp vr vT)) (by simp[hvwA]),hs.has (b12,blk 44 (u8s d)) (by simp[hb12A])⟩) (⟨hs.has (bw,blk 42 (w8C bp br vR)) (by simp[hbwA]),hs.has (vw,blk 42 (w8C vp vr vT)) (by simp[hvwA]),hs.has (b12,blk 44 (u8s d)) (by simp[hb12A])⟩) ?_
 rw[hmE] at hvm
 have ob:∃E3,D3++(D2++(D1++E0))=E3:=⟨_,rfl⟩
 obtain⟨E3,hE3⟩:=ob
 rw[hE3] at hs hPs3
 have hPt3:PRep vp t' E3 L2:=hPt2.mono fun p hp=>by rw[←hE3];simp only[List.mem_append] at hp⊢;rcases hp with hp | hp | hp <;> simp[hp]
 have hPw3:PRep bt t E3 Lw:=hPw.mono fun p hp=>by rw[←hE3];simp only[List.mem_append] at hp⊢;rcases hp with hp | hp <;> simp[hp]
 have hTD3:∀u∈T,Held E3 u.2 u.1.x:=fun u hu=>(hTD u hu).mono fun p hp=>by rw[←hE3];simp only[List.mem_append] at hp⊢;rcases hp with hp | hp <;> simp[hp]
 have ob:=hvm.form
 obtain⟨ma,mc,rfl⟩:=ob
 have hf3:=H.copy.err
 refine CW.sM (fun f' w=>Step [] ((Lm++(Lw++(Ll++A0)))++(L2++(L3++((Rt++R)++E3)))) w0 w∧Holds f' [(9,.pointer (some ⟨bw,0,none⟩)),(11,.pointer (some ⟨vw,0,none⟩)),(12,.pointer (some ⟨b12,0,none⟩)),(13,vl),(15,.pointer (some ⟨bt,0,none⟩)),(16,.int .i64 (n:Nat)),(17,.int .i64 f),(18,.slice ma l0.length mc)]) ?_ ?_
 ·rcases hf3 with h | h | h
  ·refine sr<|wm<|wV (run_bF (run_neq rfl rfl) (by exact fun h=>h he))<|wm ?_
   first | (refine WL.yes rfl rfl rfl ?_;refine WL.val rfl (run_move) ?_) | refine WL.no rfl rfl rfl (.inl rfl) ?_ | refine WL.no rfl rfl rfl (.inr rfl) ?_
   refine wy<|wV (run_bF (run_neq rfl rfl) (by exact fun h2=>h2 h)) ?_
   first | (refine WL.yes rfl rfl rfl ?_;refine WL.val rfl (run_move) ?_) | refine WL.no rfl rfl rfl (.inl rfl) ?_ | refine WL.no rfl rfl rfl (.inr rfl) ?_
   first | (refine WL.yes rfl rfl rfl ?_;refine WL.val rfl (run_move) ?_) | refine WL.no rfl rfl rfl (.inl rfl) ?_ | refine WL.no rfl rfl rfl (.inr rfl) ?_
   first | (refine WL.yes rfl rfl rfl ?_;refine WL.val rfl (run_neq rfl rfl) ?_) | refine WL.no rfl rfl rfl (.inl rfl) ?_ | refine WL.no rfl rfl rfl (.inr rfl) ?_
   first | (refine WL.yes rfl rfl rfl ?_;(first | refine WL.val rfl (run_pickT rfl) ?_ | refine WL.val rfl (run_pickF rfl) ?_)) | refine WL.no rfl rfl rfl (.inl rfl) ?_ | refine WL.no rfl rfl rfl (.inr rfl) ?_
   first | (refine WL.yes rfl rfl rfl ?_;refine WL.val rfl (run_move) ?_) | refine WL.no rfl rfl rfl (.inl rfl) ?_ | refine WL.no rfl rfl rfl (.inr rfl) ?_
   first | (refine WL.yes rfl rfl rfl ?_;refine WL.val rfl (run_move) ?_) | refine WL.no rfl rfl rfl (.inl rfl) ?_ | refine WL.no rfl rfl rfl (.inr rfl) ?_
   first | (refine WL.yes rfl rfl rfl ?_;refine WL.val rfl (run_neq rfl rfl) ?_) | refine WL.no rfl rfl rfl (.inl rfl) ?_ | refine WL.no rfl rfl rfl (.inr rfl) ?_
   first | (refine WL.yes rfl rfl rfl ?_;(first | refine WL.val rfl (run_pickT rfl) ?_ | refine WL.val rfl (run_pickF rfl) ?_)) | refine WL.no rfl rfl rfl (.inl rfl) ?_ | refine WL.no rfl rfl rfl (.inr rfl) ?_
   first | refine WL.val rfl (run_pickT rfl) ?_ | refine WL.val rfl (run_pickF rfl) ?_
   refine wZ ?_
   first | refine CW.condP rfl (fun h=>?_) (fun h=>?_) | refine CW.cond rfl (fun h=>?_) (fun h=>?_)
   ·cases h
   refine ck ?_
   exact⟨rfl,hs,rfl,rfl,rfl,rfl,rfl,rfl,rfl,rfl,trivial⟩
  ·refine sr<|wm<|wV (run_bF (run_neq rfl rfl) (by exact fun h=>h he))<|wm ?_
   first | (refine WL.yes rfl rfl rfl ?_;refine WL.val rfl (run_move) ?_) | refine WL.no rfl rfl rfl (.inl rfl) ?_ | refine WL.no rfl rfl rfl (.inr rfl) ?_
   refine wy<|wV (run_bT (run_neq rfl rfl) (by rw[h];decide)) ?_
   first | (refine WL.yes rfl rfl rfl ?_;refine WL.val rfl (run_move) ?_) | refine WL.no rfl rfl rfl (.inl rfl) ?_ | refine WL.no rfl rfl rfl (.inr rfl) ?_
   first | (refine WL.yes rfl rfl rfl ?_;refine WL.val rfl (run_move) ?_) | refine WL.no rfl rfl rfl (.inl rfl) ?_ | refine WL.no rfl rfl rfl (.inr rfl) ?_
   refine wy<|wV (run_bF (run_neq rfl rfl) (by rw[h];decide)) ?_
   first | (refine WL.yes rfl rfl rfl ?_;(first | refine WL.val rfl (run_pickT rfl) ?_ | refine WL.val rfl (run_pickF rfl) ?_)) | refine WL.no rfl rfl rfl (.inl rfl) ?_ | refine WL.no rfl rfl rfl (.inr rfl) ?_
   first | (refine WL.yes rfl rfl rfl ?_;refine WL.val rfl (run_move) ?_) | refine WL.no rfl rfl rfl (.inl rfl) ?_ | refine WL.no rfl rfl rfl (.inr rfl) ?_
   first | (refine WL.yes rfl rfl rfl ?_;refine WL.val rfl (run_move) ?_) | refine WL.no rfl rfl rfl (.inl rfl) ?_ | refine WL.no rfl rfl rfl (.inr rfl) ?_
   first | (refine WL.yes rfl rfl rfl ?_;refine WL.val rfl (run_neq rfl rfl) ?_) | refine WL.no rfl rfl rfl (.inl rfl) ?_ | refine WL.no rfl rfl rfl (.inr rfl) ?_
   first | (refine WL.yes rfl rfl rfl ?_;(first | refine WL.val rfl (run_pickT rfl) ?_ | refine WL.val rfl (run_pickF rfl) ?_)) | refine WL.no rfl rfl rfl (.inl rfl) ?_ | refine WL.no rfl rfl rfl (.inr rfl) ?_
   first | refine WL.val rfl (run_pickT rfl) ?_ | refine WL.val rfl (run_pickF rfl) ?_
   refine wZ ?_
   first | refine CW.condP rfl (fun h=>?_) (fun h=>?_) | refine CW.cond rfl (fun h=>?_) (fun h=>?_)
   ·cases h
   refine ck ?_
   exact⟨rfl,hs,rfl,rfl,rfl,rfl,rfl,rfl,rfl,rfl,trivial⟩
  ·refine sr<|wm<|wV (run_bF (run_neq rfl rfl) (by exact fun h=>h he))<|wm ?_
   first | (refine WL.yes rfl rfl rfl ?_;refine WL.val rfl (run_move) ?_) | refine WL.no rfl rfl rfl (.inl rfl) ?_ | refine WL.no rfl rfl rfl (.inr rfl) ?_
   refine wy<|wV (run_bT (run_neq rfl rfl) (by rw[h];decide)) ?_
   first | (refine WL.yes rfl rfl rfl ?_;refine WL.val rfl (run_move) ?_) | refine WL.no rfl rfl rfl (.inl rfl) ?_ | refine WL.no rfl rfl rfl (.inr rfl) ?_
   first | (refine WL.yes rfl rfl rfl ?_;refine WL.val rfl (run_move) ?_) | refine WL.no rfl rfl rfl (.inl rfl) ?_ | refine WL.no rfl rfl rfl (.inr rfl) ?_
   refine wy<|wV (run_bT (run_neq rfl rfl) (by rw[h];decide)) ?_
   first | (refine WL.yes rfl rfl rfl ?_;(first | refine WL.val rfl (run_pickT rfl) ?_ | refine WL.val rfl (run_pickF rfl) ?_)) | refine WL.no rfl rfl rfl (.inl rfl) ?_ | refine WL.no rfl rfl rfl (.inr rfl) ?_
   first | (refine WL.yes rfl rfl rfl ?_;refine WL.val rfl (run_move) ?_) | refine WL.no rfl rfl rfl (.inl rfl) ?_ | refine WL.no rfl rfl rfl (.inr rfl) ?_
   first | (refine WL.yes rfl rfl rfl ?_;refine WL.val rfl (run_move) ?_) | refine WL.no rfl rfl rfl (.inl rfl) ?_ | refine WL.no rfl rfl rfl (.inr rfl) ?_
   refine wy<|wV (run_bF (run_neq rfl rfl) (by rw[h];decide)) ?_
   first | (refine WL.yes rfl rfl rfl ?_;(first | refine WL.val rfl (run_pickT rfl) ?_ | refine WL.val rfl (run_pickF rfl) ?_)) | refine WL.no rfl rfl rfl (.inl rfl) ?_ | refine WL.no rfl rfl rfl (.inr rfl) ?_
   first | refine WL.val rfl (run_pickT rfl) ?_ | refine WL.val rfl (run_pickF rfl) ?_
   refine wZ ?_
   first | refine CW.condP rfl (fun h=>?_) (fun h=>?_) | refine CW.cond rfl (fun h=>?_) (fun h=>?_)
   ·cases h
   refine ck ?_
   exact⟨rfl,hs,rfl,rfl,rfl,rfl,rfl,rfl,rfl,rfl,trivial⟩
 clear hs
 rintro f' w ⟨hs,hf⟩
 have ob:=hf.chain
 obtain⟨g,rfl⟩:=ob
 have hrt:=runs_dirs (s:=s) (d:=d) (t:=r.2) (by rw[hr,←he])
 have hmt:=W.met he
 have hdirs:=fun{w1:World} h=>dirs8_spec (w0:=w1) (U:=dirL r.2.m) hPs3 (ok.gotN _) h hd32 (Nat.le_trans (dirL_len _) (W.len he)) (dirL_mem.2 hrt.1) (fun q hq e hqe hqk=>dirL_mem.2 (hrt.2 q (dirL_mem.1 hq) e (by
  have h9:=get_raw (hmt.got _ (dirL_mem.1 hq))
  rw[←h9];exact hqe) hqk)) (fun q hq=>W.m32 he _ (dirL_mem.1 hq))
 refine cq<|CW.any (A:=fun w=>w.heap[bw]?=some (blk 42 (w8C bp br vR))∧w.heap[vw]?=some (blk 42 (w8C vp vr vT))∧w.heap[b12]?=some (blk 44 (u8s d))) (C:=fun w=>w.heap[bw]?=some (blk 42 (w8C bp br vR))∧w.heap[vw]?=some (blk 42 (w8C vp vr vT))∧w.heap[b12]?=some (blk 44 (u8s d))) 1000000 7 mixedP rfl ?_
 replace hs:=hs.drew
 refine aM 0 rfl<|aV 1 rfl (fun w hs=>run_nilCheck rfl)<|aV 2 rfl (fun w hs=>run_field (o':=0) u42 rfl ty39 rfl rfl rfl)<|aV 3 rfl (fun w hs=>run_load1 ty39 rfl ((At.of_blk hs.1).cell (j:=0) rfl))<|aV 4 rfl (fun w hs=>run_loadN ty44 rfl hzl (At.of_blk hs.2.2))<|AL.one 5 (by kernel_rfl) rfl (⟨hs.has (bw,blk 42 (w8C bp br vR)) (by simp[hbwA]),hs.has (vw,blk 42 (w8C vp vr vT)) (by simp[hvwA]),hs.has (b12,blk 44 (u8s d)) (by simp[hb12A])⟩) (⟨hs.has (bw,blk 42 (w8C bp br vR)) (by simp[hbwA]),hs.has (vw,blk 42 (w8C vp vr vT)) (by simp[hvwA]),hs.has (b12,blk 44 (u8s d)) (by simp[hb12A])⟩) ?_
 refine wE rfl (run_call en49 rfl rfl) (hdirs (Ab.sl hs)) ?_
 rintro e w ⟨vA,LA,Al,rfl,hvA,hDO,hq⟩
 refine⟨_,rfl,?_⟩
 replace hs:=Step.call0 hs hq
 refine wZ<|⟨rfl,?_⟩
 refine aV 6 rfl (fun w hs=>run_assign)<|AL.end (by kernel_rfl) (⟨hs.has (bw,blk 42 (w8C bp br vR)) (by simp[hbwA]),hs.has (vw,blk 42 (w8C vp vr vT)) (by simp[hvwA]),hs.has (b12,blk 44 (u8s d)) (by simp[hb12A])⟩) (⟨hs.has (bw,blk 42 (w8C bp br vR)) (by simp[hbwA]),hs.has (vw,blk 42 (w8C vp vr vT)) (by simp[hvwA]),hs.has (b12,blk 44 (u8s d)) (by simp[hb12A])⟩) ?_
 have ob:∃A3,LA++(Lm++(Lw++(Ll++A0)))=A3:=⟨_,rfl⟩
 obtain⟨A3,hA3⟩:=ob
 have hbw3:(bw,blk 42 (w8C bp br vR))∈A3:=by rw[←hA3];simp[hbwA]
 have hvw3:(vw,blk 42 (w8C vp vr vT))∈A3:=by rw[←hA3];simp[hvwA]
 have hb123:(b12,blk 44 (u8s d))∈A3:=by rw[←hA3];simp[hb12A]
 have hLA3:∀p∈LA,p∈A3:=fun p hp=>by rw[←hA3];simp[hp]
 have hLm3:∀p∈Lm,p∈A3:=fun p hp=>by rw[←hA3];simp[hp]
 have hLl3:∀p∈Ll,p∈A3:=fun p hp=>by rw[←hA3];simp[hp]
 have hLw:∀{w1:World},Step [] (A3++(L2++(L3++((Rt++R)++E3)))) w0 w1→Lives (Lw++E3) w1:=fun h=>Lives.pick (Y:=(LA++(Lm++(Ll++A0)))++(L2++(L3++(Rt++R)))) h (by
  rw[←hA3]
  classical exact List.perm_iff_count.2 fun x=>by simp only[List.count_append];omega)
 replace hs:Step [] (A3++(L2++(L3++((Rt++R)++E3)))) w0 w:=by rw[←hA3,List.append_assoc];exact hs
 have hDO':DirsOk s d (dirL r.2.m) Al:=⟨hDO.nodup,hDO.head,hDO.sub,hDO.closed⟩
 have hAiff:=dirs_iff (t:=r.2) (by rw[hr,←he]) hmt hDO'
 have hPA:=partsA_eq hmt hAiff
 have hAl32:∀q∈Al,q.length=32:=fun q hq=>W.m32 he _ ((hAiff q).1 hq)
 have hAll:Al.length≤65536:=Nat.le_trans (nodup_len hDO.nodup hDO.sub) (Nat.le_trans (dirL_len _) (W.len he))
 have hl032:∀q∈l0,q.length=32:=fun q hq=>by rw[←hl0] at hq;exact hmt.len q hq
 have hl0l:l0.length≤65536:=by rw[←hl0];exact Nat.le_trans (ordM_len _) (W.len he)
 have hl0p:0<l0.length:=List.length_pos_of_mem (by rw[←hl0];exact List.mem_of_getElem? hmt.head)
 have hUcl:∀q∈Al,∀z∈partsX s q,z∈l0:=fun q hq z hz=>by
  have h1:=(hAiff q).1 hq
  rw[raw_got (hmt.got _ h1)] at hz
  rw[←hl0]
  exact hmt.sub q (by rw[ordM_mem];exact List.mem_map.2 ⟨_,h1,rfl⟩) z (by rw[partsM,if_pos h1];exact hz)
 have hnum:=H.num
 rw[hl0] at hnum
 have hnl:=H.few
 rw[hl0] at hnl
 have ob:=hvm.some1 hl0p
 obtain⟨bm,cm,mm,hme1,hme2,hme3⟩:=ob
 have ob:∃cnt:Nat→Nat,cnt=fun i=>((l0.take i).filter fun x=>decide (t'.stamp x≠t.stamp x)).length:=⟨_,rfl⟩
 obtain⟨cnt,hcntE⟩:=ob
 have hcnt0:cnt 0=0:=by rw[hcntE];rfl
 have hcntn:cnt l0.length=n:=by rw[hcntE];simp only;rw[List.take_length];exact hnum
 have hcntl:∀i,cnt i≤65536:=fun i=>by
  rw[hcntE]
  simp only
  have:=List.length_filter_le (fun x=>decide (t'.stamp x≠t.stamp x)) (l0.take i)
  rw[List.length_take] at this
  omega
 refine sr<|wA<|wZ<|CW.seqM (fun f' w=>Step [] (A3++(L2++(L3++((Rt++R)++E3)))) w0 w∧Holds f' [(9,.pointer (some ⟨bw,0,none⟩)),(11,.pointer (some ⟨vw,0,none⟩)),(12,.pointer (some ⟨b12,0,none⟩)),(13,vl),(15,.pointer (some ⟨bt,0,none⟩)),(16,.int .i64 (n:Nat)),(17,.int .i64 f),(18,.slice (some ⟨bm,0,none⟩) l0.length cm),(21,.int .i64 (n:Nat))]) ?_ ?_
 ·refine sr<|wA<|wZ<|cB<|CW.loop (fun zz f' w'=>∃(i:Nat),i≤l0.length∧zz=l0.length - i∧Step [] (A3++(L2++(L3++((Rt++R)++E3)))) w0 w'∧Holds f' [(9,.pointer (some ⟨bw,0,none⟩)),(11,.pointer (some ⟨vw,0,none⟩)),(12,.pointer (some ⟨b12,0,none⟩)),(13,vl),(15,.pointer (some ⟨bt,0,none⟩)),(16,.int .i64 (n:Nat)),(17,.int .i64 f),(18,.slice (some ⟨bm,0,none⟩) l0.length cm),(20,vA),(21,.int .i64 (cnt i:Nat)),(22,.int .i64 (i:Nat))]) (m:=l0.length) ?_ ?_
  ·exact⟨0,Nat.zero_le _,rfl,hs,rfl,rfl,rfl,rfl,rfl,rfl,rfl,hme1,rfl,(congrArg (fun n:Nat=>Value.int .i64 (n:Int)) hcnt0).symm,rfl,trivial⟩
  clear hs
  rintro zz f' w ⟨i,hi,rfl,hs,hf⟩
  have ob:=hf.chain
  obtain⟨g,rfl⟩:=ob
  have hci:=hcntl i
  by_cases hlt:i<l0.length
  ·have ob:∃q,l0[i]?=some q:=⟨_,List.getElem?_eq_getElem hlt⟩
   obtain⟨q1,hq1⟩:=ob
   have hq1m:=List.mem_of_getElem? hq1
   have hq132:=hl032 q1 hq1m
   have hxl:(u8s q1).length=32:=by rw[u8s,List.length_map,hq132]
   have hxatH:∀{w1:World},(∀p∈A3,w1.heap[p.1]?=some p.2)→At w1 bm (0+i*32) (u8s q1):=fun h=>digsL_at hl032 (At.of_blk (h (bm,blk 44 (digsL l0++mm)) (hLm3 _ (by rw[hme2];simp)))).left hq1
   have hxat:∀{w1:World},Step [] (A3++(L2++(L3++((Rt++R)++E3)))) w0 w1→At w1 bm (0+i*32) (u8s q1):=fun h=>hxatH fun p hp=>h.has p (List.mem_append_left _ hp)
   have hhA:∀{b:Bool},decide (q1∈Al)=b→∀{w1:World},Step [] (A3++(L2++(L3++((Rt++R)++E3)))) w0 w1→Calls Tryz.prog 32 #[vA,.agg (u8s q1).toArray] w1 (Ret0 (.bool b) w1):=fun {b} hb {w1} h=>by
    have h2:=hasL8_spec (w0:=w1) (Dgs.own hvA (fun p hp=>h.has p (List.mem_append_left _ (hLA3 p hp))) hAl32 (by omega)) hq132
    rw[hb] at h2;exact h2
   have hstP:=fun{w1:World} h=>stamp_abs (w0:=w1) hPt3 H.copy.ok h hq132
   have hstW:=fun{w1:World} h=>stamp_abs (w0:=w1) hPw3 okt h hq132
   have hft:=filter_take (p:=fun x=>decide (t'.stamp x≠t.stamp x)) hq1
   refine cq<|sr<|wm<|wm<|wV (run_lenSl u35 rfl)<|wV (run_bT (run_lss rfl rfl) (by omega))<|wZ ?_
   first | refine CW.condP rfl (fun h=>?_) (fun h=>?_) | refine CW.cond rfl (fun h=>?_) (fun h=>?_)
   ·refine ck<|CW.seqM (fun f' w=>Step [] (A3++(L2++(L3++((Rt++R)++E3)))) w0 w∧Holds f' [(9,.pointer (some ⟨bw,0,none⟩)),(11,.pointer (some ⟨vw,0,none⟩)),(12,.pointer (some ⟨b12,0,none⟩)),(13,vl),(15,.pointer (some ⟨bt,0,none⟩)),(16,.int .i64 (n:Nat)),(17,.int .i64 f),(18,.slice (some ⟨bm,0,none⟩) l0.length cm),(20,vA),(21,.int .i64 (cnt (i+1):Nat)),(22,.int .i64 (i:Nat))]) ?_ ?_
    ·by_cases hst:t'.stamp q1=t.stamp q1
     ·have hcnt:cnt (i+1)=cnt i:=by
       rw[hcntE]
       simp only
       rw[hft]
       simp[hst]
      refine cB<|cq<|cq<|CW.any (A:=fun w=>∀p∈A3,w.heap[p.1]?=some p.2) (C:=fun w=>∀p∈A3,w.heap[p.1]?=some p.2) 1000000 16 mixedP rfl ?_
      replace hs:=hs.drew
      refine aM 0 rfl<|aV 1 rfl (fun w hs=>run_nilCheck rfl)<|aV 2 rfl (fun w hs=>run_field (o':=0) u42 rfl ty39 rfl rfl rfl)<|aV 3 rfl (fun w hs=>run_load1 ty39 rfl (((At.of_blk (hs _ hvw3)).cell (j:=0) rfl)))<|aM 4 rfl<|aM 5 rfl ?_
      first | refine AL.val 6 rfl (by kernel_rfl) rfl (fun w hs=>run_ixSlN u35 ty44 rfl rfl (by omega)) ?_ | refine AL.val 6 rfl (by kernel_rfl) rfl (fun w hs=>run_ixSl u35 ty44 rfl rfl (by omega)) ?_
      refine aV 7 rfl (fun w hs=>run_loadN ty44 rfl hxl (hxatH hs))<|aM 9 rfl<|aM 10 rfl<|aM 11 rfl ?_
      first | refine AL.val 12 rfl (by kernel_rfl) rfl (fun w hs=>run_ixSlN u35 ty44 rfl rfl (by omega)) ?_ | refine AL.val 12 rfl (by kernel_rfl) rfl (fun w hs=>run_ixSl u35 ty44 rfl rfl (by omega)) ?_
      refine aV 13 rfl (fun w hs=>run_loadN ty44 rfl hxl (hxatH hs))<|AL.one 8 (by kernel_rfl) rfl (fun p hp=>hs.has p (by simp[hp])) (fun p hp=>hs.has p (by simp[hp])) ?_
      refine wE rfl (run_call en50 rfl rfl) (hstP (Ab.tl hs)) ?_
      rintro e w ⟨rfl,hq⟩
      refine⟨_,rfl,?_⟩
      replace hs:=hs.callE hq
      refine wZ<|⟨rfl,?_⟩
      refine AL.one 14 (by kernel_rfl) rfl (fun p hp=>hs.has p (by simp[hp])) (fun p hp=>hs.has p (by simp[hp])) ?_
      refine wE rfl (run_call en50 rfl rfl) (hstW (hLw hs)) ?_
      rintro e w ⟨rfl,hq2⟩
      refine⟨_,rfl,?_⟩
      replace hs:=hs.callE hq2
      refine wZ<|⟨rfl,?_⟩
      refine aV 15 rfl (fun w hs=>run_bT (run_eql rfl rfl) (by exact congrArg Int.ofNat hst))<|AL.end (by kernel_rfl) (fun p hp=>hs.has p (by simp[hp])) (fun p hp=>hs.has p (by simp[hp])) ?_
      first | refine CW.condP rfl (fun h=>?_) (fun h=>?_) | refine CW.cond rfl (fun h=>?_) (fun h=>?_)
      ·refine CW.exit ?_
       exact⟨rfl,hs,rfl,rfl,rfl,rfl,rfl,rfl,rfl,rfl,rfl,(congrArg (fun n:Nat=>Value.int .i64 (n:Int)) hcnt).symm,rfl,trivial⟩
      ·cases h
     ·have hcnt:cnt (i+1)=cnt i+1:=by
       rw[hcntE]
       simp only
       rw[hft]
       simp[hst]
      refine cB<|cq<|cq<|CW.any (A:=fun w=>∀p∈A3,w.heap[p.1]?=some p.2) (C:=fun w=>∀p∈A3,w.heap[p.1]?=some p.2) 1000000 16 mixedP rfl ?_
      replace hs:=hs.drew
      refine aM 0 rfl<|aV 1 rfl (fun w hs=>run_nilCheck rfl)<|aV 2 rfl (fun w hs=>run_field (o':=0) u42 rfl ty39 rfl rfl rfl)<|aV 3 rfl (fun w hs=>run_load1 ty39 rfl (((At.of_blk (hs _ hvw3)).cell (j:=0) rfl)))<|aM 4 rfl<|aM 5 rfl ?_
      first | refine AL.val 6 rfl (by kernel_rfl) rfl (fun w hs=>run_ixSlN u35 ty44 rfl rfl (by omega)) ?_ | refine AL.val 6 rfl (by kernel_rfl) rfl (fun w hs=>run_ixSl u35 ty44 rfl rfl (by omega)) ?_
      refine aV 7 rfl (fun w hs=>run_loadN ty44 rfl hxl (hxatH hs))<|aM 9 rfl<|aM 10 rfl<|aM 11 rfl ?_
      first | refine AL.val 12 rfl (by kernel_rfl) rfl (fun w hs=>run_ixSlN u35 ty44 rfl rfl (by omega)) ?_ | refine AL.val 12 rfl (by kernel_rfl) rfl (fun w hs=>run_ixSl u35 ty44 rfl rfl (by omega)) ?_
      refine aV 13 rfl (fun w hs=>run_loadN ty44 rfl hxl (hxatH hs))<|AL.one 8 (by kernel_rfl) rfl (fun p hp=>hs.has p (by simp[hp])) (fun p hp=>hs.has p (by simp[hp])) ?_
      refine wE rfl (run_call en50 rfl rfl) (hstP (Ab.tl hs)) ?_
      rintro e w ⟨rfl,hq⟩
      refine⟨_,rfl,?_⟩
      replace hs:=hs.callE hq
      refine wZ<|⟨rfl,?_⟩
      refine AL.one 14 (by kernel_rfl) rfl (fun p hp=>hs.has p (by simp[hp])) (fun p hp=>hs.has p (by simp[hp])) ?_
      refine wE rfl (run_call en50 rfl rfl) (hstW (hLw hs)) ?_
      rintro e w ⟨rfl,hq2⟩
      refine⟨_,rfl,?_⟩
      replace hs:=hs.callE hq2
      refine wZ<|⟨rfl,?_⟩
      refine aV 15 rfl (fun w hs=>run_bF (run_eql rfl rfl) (by exact fun h=>hst (Int.ofNat.inj h)))<|AL.end (by kernel_rfl) (fun p hp=>hs.has p (by simp[hp])) (fun p hp=>hs.has p (by simp[hp])) ?_
      first | refine CW.condP rfl (fun h=>?_) (fun h=>?_) | refine CW.cond rfl (fun h=>?_) (fun h=>?_)
      ·cases h
      refine ck<|sr<|wm<|wV (run_add (c:=((cnt i+1:Nat):Int)) rfl rfl (by omega) (by omega))<|wA<|wZ ?_
      have hpt:=fun{w1:World} h=>parts8_spec (w0:=w1) hPs3 (ok.gotN _) h hq132
      have ob:∃ps,partsX s q1=ps:=⟨_,rfl⟩
      obtain⟨ps,hps⟩:=ob
      have hpsg:∀G,partsX (s.gotN G) q1=ps:=fun G=>hps
      simp only[hpsg] at hpt
      refine cq<|CW.any (A:=fun w=>∀p∈A3,w.heap[p.1]?=some p.2) (C:=fun w=>∀p∈A3,w.heap[p.1]?=some p.2) 1000000 10 mixedP rfl ?_
      replace hs:=hs.drew
      refine aM 0 rfl<|aV 1 rfl (fun w hs=>run_nilCheck rfl)<|aV 2 rfl (fun w hs=>run_field (o':=0) u42 rfl ty39 rfl rfl rfl)<|aV 3 rfl (fun w hs=>run_load1 ty39 rfl (((At.of_blk (hs _ hbw3)).cell (j:=0) rfl)))<|aM 4 rfl<|aM 5 rfl ?_
      first | refine AL.val 6 rfl (by kernel_rfl) rfl (fun w hs=>run_ixSlN u35 ty44 rfl rfl (by omega)) ?_ | refine AL.val 6 rfl (by kernel_rfl) rfl (fun w hs=>run_ixSl u35 ty44 rfl rfl (by omega)) ?_
      refine aV 7 rfl (fun w hs=>run_loadN ty44 rfl hxl (hxatH hs))<|AL.one 8 (by kernel_rfl) rfl (fun p hp=>hs.has p (by simp[hp])) (fun p hp=>hs.has p (by simp[hp])) ?_
      refine wE rfl (run_call en51 rfl rfl) (hpt (Ab.sl hs)) ?_
      rintro e w ⟨vp,Lp,rfl,hvp,hp32,hpl,hq⟩
      refine⟨_,rfl,?_⟩
      replace hs:=Step.call0 hs hq
      refine wZ<|⟨rfl,?_⟩
      refine aV 9 rfl (fun w hs=>run_assign)<|AL.end (by kernel_rfl) (fun p hp=>hs.has p (by simp[hp])) (fun p hp=>hs.has p (by simp[hp])) ?_
      have ob:=hvp.form
      obtain⟨pa,pc,rfl⟩:=ob
      refine sr<|wA<|wZ<|cB<|CW.loop (fun zz f' w'=>∃(k:Nat),k≤ps.length∧zz=ps.length - k∧Step [] (Lp++(A3++(L2++(L3++((Rt++R)++E3))))) w0 w'∧Holds f' [(9,.pointer (some ⟨bw,0,none⟩)),(11,.pointer (some ⟨vw,0,none⟩)),(12,.pointer (some ⟨b12,0,none⟩)),(13,vl),(15,.pointer (some ⟨bt,0,none⟩)),(16,.int .i64 (n:Nat)),(17,.int .i64 f),(18,.slice (some ⟨bm,0,none⟩) l0.length cm),(20,vA),(21,.int .i64 ((cnt i+1:Nat):Int)),(22,.int .i64 (i:Nat)),(23,.slice pa ps.length pc),(24,.int .i64 (k:Nat))]) (m:=ps.length) ?_ ?_
      ·exact⟨0,Nat.zero_le _,rfl,hs,rfl,rfl,rfl,rfl,rfl,rfl,rfl,rfl,rfl,rfl,rfl,rfl,rfl,trivial⟩
      clear hs
      rintro zz f' w ⟨k,hk,rfl,hs,hf⟩
      have ob:=hf.chain
      obtain⟨g,rfl⟩:=ob
      by_cases hkl:k<ps.length
      ·have ob:∃q,ps[k]?=some q:=⟨_,List.getElem?_eq_getElem hkl⟩
       obtain⟨q,hq⟩:=ob
       have hqm:=List.mem_of_getElem? hq
       have hq32:=hp32 q hqm
       have hql:(u8s q).length=32:=by rw[u8s,List.length_map,hq32]
       have ob:=hvp.some1 (by omega)
       obtain⟨bu,cu,more,hu1,hu2,hu3⟩:=ob
       cases hu1
       have hqat:∀{w1:World},(∀p∈Lp,w1.heap[p.1]?=some p.2)→At w1 bu (0+k*32) (u8s q):=fun h=>digsL_at hp32 (At.of_blk (h (bu,blk 44 (digsL ps++more)) (by rw[hu2];simp))).left hq
       have hLpw:=fun{w1:World} (h:Step [] (Lp++(A3++(L2++(L3++((Rt++R)++E3))))) w0 w1)=>(fun p hp=>h.has p (List.mem_append_left _ hp):∀p∈Lp,w1.heap[p.1]?=some p.2)
       by_cases hxA:q1∈Al
       ·have hha:=fun{w1:World} h=>hhA (w1:=w1) (decide_eq_true hxA) h
        have hqP:q∈partsM s r.2.m q1:=by
         rw[partsM,if_pos ((hAiff q1).1 hxA),←raw_got (hmt.got _ ((hAiff q1).1 hxA))]
         rw[←hps] at hqm
         exact hqm
        refine cq<|sr<|wm<|wm<|wV (run_lenSl u35 rfl)<|wV (run_bT (run_lss rfl rfl) (by omega))<|wm ?_
        first | (refine WL.yes rfl rfl rfl ?_;refine WL.val rfl (run_move) ?_) | refine WL.no rfl rfl rfl (.inl rfl) ?_ | refine WL.no rfl rfl rfl (.inr rfl) ?_
        first | (refine WL.yes rfl rfl rfl ?_;refine WL.val rfl (run_move) ?_) | refine WL.no rfl rfl rfl (.inl rfl) ?_ | refine WL.no rfl rfl rfl (.inr rfl) ?_
        first | (refine WL.yes rfl rfl rfl ?_;refine WL.val rfl (run_move) ?_) | refine WL.no rfl rfl rfl (.inl rfl) ?_ | refine WL.no rfl rfl rfl (.inr rfl) ?_
        first | (refine WL.yes rfl rfl rfl ?_;(first | refine WL.val rfl (run_ixSlN u35 ty44 rfl rfl (by omega)) ?_ | refine WL.val rfl (run_ixSl u35 ty44 rfl rfl (by omega)) ?_)) | refine WL.no rfl rfl rfl (.inl rfl) ?_ | refine WL.no rfl rfl rfl (.inr rfl) ?_
        refine wy<|wV (run_loadN ty44 rfl hxl (hxat (Step.dropL hs)))<|wy<|wE rfl (run_call en32 rfl rfl) (hha (Step.dropL hs)) ?_
        rintro e w ⟨rfl,hq⟩
        refine⟨_,rfl,?_⟩
        replace hs:=hs.callE hq
        first | refine WL.val rfl (run_pickT rfl) ?_ | refine WL.val rfl (run_pickF rfl) ?_
        refine wZ ?_
        first | refine CW.condP rfl (fun h=>?_) (fun h=>?_) | refine CW.cond rfl (fun h=>?_) (fun h=>?_)
        ·by_cases hwh:t'.whole q=true
         ·have hwa:=fun{w1:World} h=>whole_abs (w0:=w1) hPt3 H.copy.ok h hq32
          simp only[hwh] at hwa
          refine ck<|cq<|cB<|cq<|CW.any (A:=fun w=>∀p∈Lp++A3,w.heap[p.1]?=some p.2) (C:=fun w=>∀p∈Lp++A3,w.heap[p.1]?=some p.2) 1000000 27 mixedP rfl ?_
          replace hs:=hs.drew
          refine aM 0 rfl<|aV 1 rfl (fun w hs=>run_nilCheck rfl)<|aV 2 rfl (fun w hs=>run_field (o':=0) u42 rfl ty39 rfl rfl rfl)<|aV 3 rfl (fun w hs=>run_load1 ty39 rfl (((At.of_blk (hs _ (List.mem_append_right _ hvw3))).cell (j:=0) rfl)))<|aM 4 rfl<|aM 5 rfl ?_
          first | refine AL.val 6 rfl (by kernel_rfl) rfl (fun w hs=>run_ixSlN u35 ty44 rfl rfl (by omega)) ?_ | refine AL.val 6 rfl (by kernel_rfl) rfl (fun w hs=>run_ixSl u35 ty44 rfl rfl (by omega)) ?_
          refine aV 7 rfl (fun w hs=>run_loadN ty44 rfl hql (hqat fun p hp=>hs p (List.mem_append_left _ hp)))<|AL.one 8 (by kernel_rfl) rfl (fun p hp=>hs.has p (by simp only[List.mem_append] at hp⊢;exact hp.imp id .inl)) (fun p hp=>hs.has p (by simp only[List.mem_append] at hp⊢;exact hp.imp id .inl)) ?_
          refine wE rfl (run_call en52 rfl rfl) (hwa (Ab.tl (Step.dropL hs))) ?_
          rintro e w ⟨rfl,hq2⟩
          refine⟨_,rfl,?_⟩
          replace hs:=hs.callE hq2
          refine wZ<|⟨rfl,?_⟩
          first | refine AL.val 9 rfl (by kernel_rfl) rfl (fun w hs=>run_notB rfl) ?_ | refine AL.val 9 rfl (by kernel_rfl) rfl (fun w hs=>run_not rfl) ?_
          refine aM 10 rfl ?_
          first | refine AL.valN 11 rfl (by kernel_rfl) rfl rfl rfl (.inl rfl) ?_ | refine AL.valN 11 rfl (by kernel_rfl) rfl rfl rfl (.inr rfl) ?_
          first | refine AL.valN 12 rfl (by kernel_rfl) rfl rfl rfl (.inl rfl) ?_ | refine AL.valN 12 rfl (by kernel_rfl) rfl rfl rfl (.inr rfl) ?_
          first | refine AL.valN 13 rfl (by kernel_rfl) rfl rfl rfl (.inl rfl) ?_ | refine AL.valN 13 rfl (by kernel_rfl) rfl rfl rfl (.inr rfl) ?_
          first | refine AL.valN 14 rfl (by kernel_rfl) rfl rfl rfl (.inl rfl) ?_ | refine AL.valN 14 rfl (by kernel_rfl) rfl rfl rfl (.inr rfl) ?_
          first | refine AL.valN 15 rfl (by kernel_rfl) rfl rfl rfl (.inl rfl) ?_ | refine AL.valN 15 rfl (by kernel_rfl) rfl rfl rfl (.inr rfl) ?_
          first | refine AL.valN 16 rfl (by kernel_rfl) rfl rfl rfl (.inl rfl) ?_ | refine AL.valN 16 rfl (by kernel_rfl) rfl rfl rfl (.inr rfl) ?_
          first | refine AL.valN 17 rfl (by kernel_rfl) rfl rfl rfl (.inl rfl) ?_ | refine AL.valN 17 rfl (by kernel_rfl) rfl rfl rfl (.inr rfl) ?_
          first | refine AL.valN 18 rfl (by kernel_rfl) rfl rfl rfl (.inl rfl) ?_ | refine AL.valN 18 rfl (by kernel_rfl) rfl rfl rfl (.inr rfl) ?_
          first | refine AL.valN 19 rfl (by kernel_rfl) rfl rfl rfl (.inl rfl) ?_ | refine AL.valN 19 rfl (by kernel_rfl) rfl rfl rfl (.inr rfl) ?_
          first | refine AL.valN 20 rfl (by kernel_rfl) rfl rfl rfl (.inl rfl) ?_ | refine AL.valN 20 rfl (by kernel_rfl) rfl rfl rfl (.inr rfl) ?_
          first | refine AL.valN 21 rfl (by kernel_rfl) rfl rfl rfl (.inl rfl) ?_ | refine AL.valN 21 rfl (by kernel_rfl) rfl rfl rfl (.inr rfl) ?_
          first | refine AL.valN 22 rfl (by kernel_rfl) rfl rfl rfl (.inl rfl) ?_ | refine AL.valN 22 rfl (by kernel_rfl) rfl rfl rfl (.inr rfl) ?_
          first | refine AL.valN 23 rfl (by kernel_rfl) rfl rfl rfl (.inl rfl) ?_ | refine AL.valN 23 rfl (by kernel_rfl) rfl rfl rfl (.inr rfl) ?_
          first | refine AL.valN 24 rfl (by kernel_rfl) rfl rfl rfl (.inl rfl) ?_ | refine AL.valN 24 rfl (by kernel_rfl) rfl rfl rfl (.inr rfl) ?_
          first | refine AL.valN 25 rfl (by kernel_rfl) rfl rfl rfl (.inl rfl) ?_ | refine AL.valN 25 rfl (by kernel_rfl) rfl rfl rfl (.inr rfl) ?_
          first | refine AL.val 26 rfl (by kernel_rfl) rfl (fun w hs=>run_pickT rfl) ?_ | refine AL.val 26 rfl (by kernel_rfl) rfl (fun w hs=>run_pickF rfl) ?_
          refine AL.end (by kernel_rfl) (fun p hp=>hs.has p (by simp only[List.mem_append] at hp⊢;exact hp.imp id .inl)) (fun p hp=>hs.has p (by simp only[List.mem_append] at hp⊢;exact hp.imp id .inl)) ?_
          first | refine CW.condP rfl (fun h=>?_) (fun h=>?_) | refine CW.cond rfl (fun h=>?_) (fun h=>?_)
          ·cases h
          refine ck<|cr<|wm<|wV (run_add (c:=((k+1:Nat):Int)) rfl rfl (by omega) (by omega))<|wA<|wZ<|(show _∧_ from⟨rfl,_,?_,k+1,hkl,rfl,hs,rfl,rfl,rfl,rfl,rfl,rfl,rfl,rfl,rfl,rfl,rfl,rfl,rfl,trivial⟩)
          omega
         ·have hwa:=fun{w1:World} h=>whole_abs (w0:=w1) hPt3 H.copy.ok h hq32
          have hwf:t'.whole q=false:=by simpa using hwh
          simp only[hwf] at hwa
          have hrc:=(H.below q1 (by rw[hl0];exact hq1m) hst q hqP).resolve_left hwh
          rw[←hPA] at hrc
          have hbe:=fun{w1:World} (h1:∀p∈LA,w1.heap[p.1]?=some p.2) h=>below8_spec (w0:=w1) (A:=Al) (U:=l0) (u:=vA) hPs3 (ok.gotN _) h hq32 hq132 (Dgs.own hvA h1 hAl32 (by omega)) (by omega) (by rw[←hl0];exact hmt.sub q1 (by rw[hl0];exact hq1m) q hqP) hUcl hl032 hrc
          refine ck<|cq<|cB<|cq<|CW.any (A:=fun w=>∀p∈Lp++A3,w.heap[p.1]?=some p.2) (C:=fun w=>∀p∈Lp++A3,w.heap[p.1]?=some p.2) 1000000 27 mixedP rfl ?_
          replace hs:=hs.drew
          refine aM 0 rfl<|aV 1 rfl (fun w hs=>run_nilCheck rfl)<|aV 2 rfl (fun w hs=>run_field (o':=0) u42 rfl ty39 rfl rfl rfl)<|aV 3 rfl (fun w hs=>run_load1 ty39 rfl (((At.of_blk (hs _ (List.mem_append_right _ hvw3))).cell (j:=0) rfl)))<|aM 4 rfl<|aM 5 rfl ?_
          first | refine AL.val 6 rfl (by kernel_rfl) rfl (fun w hs=>run_ixSlN u35 ty44 rfl rfl (by omega)) ?_ | refine AL.val 6 rfl (by kernel_rfl) rfl (fun w hs=>run_ixSl u35 ty44 rfl rfl (by omega)) ?_
          refine aV 7 rfl (fun w hs=>run_loadN ty44 rfl hql (hqat fun p hp=>hs p (List.mem_append_left _ hp)))<|AL.one 8 (by kernel_rfl) rfl (fun p hp=>hs.has p (by simp only[List.mem_append] at hp⊢;exact hp.imp id .inl)) (fun p hp=>hs.has p (by simp only[List.mem_append] at hp⊢;exact hp.imp id .inl)) ?_
          refine wE rfl (run_call en52 rfl rfl) (hwa (Ab.tl (Step.dropL hs))) ?_
          rintro e w ⟨rfl,hq2⟩
          refine⟨_,rfl,?_⟩
          replace hs:=hs.callE hq2
          refine wZ<|⟨rfl,?_⟩
          first | refine AL.val 9 rfl (by kernel_rfl) rfl (fun w hs=>run_notB rfl) ?_ | refine AL.val 9 rfl (by kernel_rfl) rfl (fun w hs=>run_not rfl) ?_
          refine aM 10 rfl<|AL.valY 11 rfl (by kernel_rfl) rfl rfl rfl rfl (fun w hs=>run_move) ?_
          refine AL.valY 12 rfl (by kernel_rfl) rfl rfl rfl rfl (fun w hs=>run_nilCheck rfl) ?_
          refine AL.valY 13 rfl (by kernel_rfl) rfl rfl rfl rfl (fun w hs=>run_field (o':=0) u42 rfl ty39 rfl rfl rfl) ?_
          refine AL.valY 14 rfl (by kernel_rfl) rfl rfl rfl rfl (fun w hs=>run_load1 ty39 rfl (((At.of_blk (hs _ (List.mem_append_right _ hbw3))).cell (j:=0) rfl))) ?_
          refine AL.valY 15 rfl (by kernel_rfl) rfl rfl rfl rfl (fun w hs=>run_move) ?_
          refine AL.valY 16 rfl (by kernel_rfl) rfl rfl rfl rfl (fun w hs=>run_move) ?_
          refine AL.valY 17 rfl (by kernel_rfl) rfl rfl rfl rfl (fun w hs=>run_move) ?_
          first | refine AL.valY 18 rfl (by kernel_rfl) rfl rfl rfl rfl (fun w hs=>run_ixSlN u35 ty44 rfl rfl (by omega)) ?_ | refine AL.valY 18 rfl (by kernel_rfl) rfl rfl rfl rfl (fun w hs=>run_ixSl u35 ty44 rfl rfl (by omega)) ?_
          refine AL.valY 19 rfl (by kernel_rfl) rfl rfl rfl rfl (fun w hs=>run_loadN ty44 rfl hql (hqat fun p hp=>hs p (List.mem_append_left _ hp))) ?_
          refine AL.valY 20 rfl (by kernel_rfl) rfl rfl rfl rfl (fun w hs=>run_move) ?_
          refine AL.valY 21 rfl (by kernel_rfl) rfl rfl rfl rfl (fun w hs=>run_move) ?_
          first | refine AL.valY 22 rfl (by kernel_rfl) rfl rfl rfl rfl (fun w hs=>run_ixSlN u35 ty44 rfl rfl (by omega)) ?_ | refine AL.valY 22 rfl (by kernel_rfl) rfl rfl rfl rfl (fun w hs=>run_ixSl u35 ty44 rfl rfl (by omega)) ?_
          refine AL.valY 23 rfl (by kernel_rfl) rfl rfl rfl rfl (fun w hs=>run_loadN ty44 rfl hxl (hxatH fun p hp=>hs p (List.mem_append_right _ hp))) ?_
          refine AL.one 24 (by kernel_rfl) rfl (fun p hp=>hs.has p (by simp only[List.mem_append] at hp⊢;exact hp.imp id .inl)) (fun p hp=>hs.has p (by simp only[List.mem_append] at hp⊢;exact hp.imp id .inl)) ?_
          refine wy<|wE rfl (run_call en53 rfl rfl) (hbe (fun p hp=>hs.has p (by simp[hLA3 p hp])) (Ab.sl (Step.dropL hs))) ?_
          rintro e w ⟨rfl,hq3⟩
          refine⟨_,rfl,?_⟩
          replace hs:=hs.callE hq3
          refine wZ<|⟨rfl,?_⟩
          first | refine AL.valY 25 rfl (by kernel_rfl) rfl rfl rfl rfl (fun w hs=>run_notB rfl) ?_ | refine AL.valY 25 rfl (by kernel_rfl) rfl rfl rfl rfl (fun w hs=>run_not rfl) ?_
          first | refine AL.val 26 rfl (by kernel_rfl) rfl (fun w hs=>run_pickT rfl) ?_ | refine AL.val 26 rfl (by kernel_rfl) rfl (fun w hs=>run_pickF rfl) ?_
          refine AL.end (by kernel_rfl) (fun p hp=>hs.has p (by simp only[List.mem_append] at hp⊢;exact hp.imp id .inl)) (fun p hp=>hs.has p (by simp only[List.mem_append] at hp⊢;exact hp.imp id .inl)) ?_
          first | refine CW.condP rfl (fun h=>?_) (fun h=>?_) | refine CW.cond rfl (fun h=>?_) (fun h=>?_)
          ·cases h
          refine ck<|cr<|wm<|wV (run_add (c:=((k+1:Nat):Int)) rfl rfl (by omega) (by omega))<|wA<|wZ<|(show _∧_ from⟨rfl,_,?_,k+1,hkl,rfl,hs,rfl,rfl,rfl,rfl,rfl,rfl,rfl,rfl,rfl,rfl,rfl,rfl,rfl,trivial⟩)
          omega
        ·cases h
       ·have hha:=fun{w1:World} h=>hhA (w1:=w1) (decide_eq_false hxA) h
        refine cq<|sr<|wm<|wm<|wV (run_lenSl u35 rfl)<|wV (run_bT (run_lss rfl rfl) (by omega))<|wm ?_
        first | (refine WL.yes rfl rfl rfl ?_;refine WL.val rfl (run_move) ?_) | refine WL.no rfl rfl rfl (.inl rfl) ?_ | refine WL.no rfl rfl rfl (.inr rfl) ?_
        first | (refine WL.yes rfl rfl rfl ?_;refine WL.val rfl (run_move) ?_) | refine WL.no rfl rfl rfl (.inl rfl) ?_ | refine WL.no rfl rfl rfl (.inr rfl) ?_
        first | (refine WL.yes rfl rfl rfl ?_;refine WL.val rfl (run_move) ?_) | refine WL.no rfl rfl rfl (.inl rfl) ?_ | refine WL.no rfl rfl rfl (.inr rfl) ?_
        first | (refine WL.yes rfl rfl rfl ?_;(first | refine WL.val rfl (run_ixSlN u35 ty44 rfl rfl (by omega)) ?_ | refine WL.val rfl (run_ixSl u35 ty44 rfl rfl (by omega)) ?_)) | refine WL.no rfl rfl rfl (.inl rfl) ?_ | refine WL.no rfl rfl rfl (.inr rfl) ?_
        refine wy<|wV (run_loadN ty44 rfl hxl (hxat (Step.dropL hs)))<|wy<|wE rfl (run_call en32 rfl rfl) (hha (Step.dropL hs)) ?_
        rintro e w ⟨rfl,hq⟩
        refine⟨_,rfl,?_⟩
        replace hs:=hs.callE hq
        first | refine WL.val rfl (run_pickT rfl) ?_ | refine WL.val rfl (run_pickF rfl) ?_
        refine wZ ?_
        first | refine CW.condP rfl (fun h=>?_) (fun h=>?_) | refine CW.cond rfl (fun h=>?_) (fun h=>?_)
        ·cases h
        refine CW.exit ?_
        exact⟨rfl,Step.dropL hs,rfl,rfl,rfl,rfl,rfl,rfl,rfl,rfl,rfl,(congrArg (fun n:Nat=>Value.int .i64 (n:Int)) hcnt).symm,rfl,trivial⟩
      ·obtain rfl:k=ps.length:=by omega
       refine cq<|sr<|wm<|wm<|wV (run_lenSl u35 rfl)<|wV (run_bF (run_lss rfl rfl) (by omega))<|wm ?_
       first | (refine WL.yes rfl rfl rfl ?_;refine WL.val rfl (run_move) ?_) | refine WL.no rfl rfl rfl (.inl rfl) ?_ | refine WL.no rfl rfl rfl (.inr rfl) ?_
       first | (refine WL.yes rfl rfl rfl ?_;refine WL.val rfl (run_move) ?_) | refine WL.no rfl rfl rfl (.inl rfl) ?_ | refine WL.no rfl rfl rfl (.inr rfl) ?_
       first | (refine WL.yes rfl rfl rfl ?_;refine WL.val rfl (run_move) ?_) | refine WL.no rfl rfl rfl (.inl rfl) ?_ | refine WL.no rfl rfl rfl (.inr rfl) ?_
       first | (refine WL.yes rfl rfl rfl ?_;(first | refine WL.val rfl (run_ixSlN u35 ty44 rfl rfl (by omega)) ?_ | refine WL.val rfl (run_ixSl u35 ty44 rfl rfl (by omega)) ?_)) | refine WL.no rfl rfl rfl (.inl rfl) ?_ | refine WL.no rfl rfl rfl (.inr rfl) ?_
       first | (refine WL.yes rfl rfl rfl ?_;(first | refine WL.val rfl (run_loadN ty44 rfl (by first | rfl | assumption | (simp;done)) hs.a0) ?_ | refine WL.val rfl (run_loadN ty44 rfl (by first | rfl | assumption | (simp;done)) hs.a1) ?_ | refine WL.val rfl (run_loadN ty44 rfl (by first | rfl | assumption | (simp;done)) hs.a2) ?_ | refine WL.val rfl (run_loadN ty44 rfl (by first | rfl | assumption | (simp;done)) hs.a3) ?_ | refine WL.val rfl (run_loadN ty44 rfl (by first | rfl | assumption | (simp;done)) hs.a4) ?_ | refine WL.val rfl (run_loadN ty44 rfl (by first | rfl | assumption | (simp;done)) hs.a5) ?_ | refine WL.val rfl (run_loadN ty44 rfl (by first | rfl | assumption | (simp;done)) hs.a0) ?_)) | refine WL.no rfl rfl rfl (.inl rfl) ?_ | refine WL.no rfl rfl rfl (.inr rfl) ?_
       first | refine WL.no rfl rfl rfl (.inl rfl) ?_ | refine WL.no rfl rfl rfl (.inr rfl) ?_
       first | refine WL.val rfl (run_pickT rfl) ?_ | refine WL.val rfl (run_pickF rfl) ?_
       refine wZ ?_
       first | refine CW.condP rfl (fun h=>?_) (fun h=>?_) | refine CW.cond rfl (fun h=>?_) (fun h=>?_)
       ·cases h
       refine CW.exit ?_
       exact⟨rfl,Step.dropL hs,rfl,rfl,rfl,rfl,rfl,rfl,rfl,rfl,rfl,(congrArg (fun n:Nat=>Value.int .i64 (n:Int)) hcnt).symm,rfl,trivial⟩
    clear hs
    rintro f' w ⟨hs,hf⟩
    have ob:=hf.chain
    obtain⟨g,rfl⟩:=ob
    refine cr<|wm<|wV (run_add (c:=((i+1:Nat):Int)) rfl rfl (by omega) (by omega))<|wA<|wZ<|(show _∧_ from⟨rfl,_,?_,i+1,hlt,rfl,hs,rfl,rfl,rfl,rfl,rfl,rfl,rfl,rfl,rfl,rfl,rfl,trivial⟩)
    omega
   ·cases h
  ·obtain rfl:i=l0.length:=by omega
   refine cq<|sr<|wm<|wm<|wV (run_lenSl u35 rfl)<|wV (run_bF (run_lss rfl rfl) (by omega))<|wZ ?_
   first | refine CW.condP rfl (fun h=>?_) (fun h=>?_) | refine CW.cond rfl (fun h=>?_) (fun h=>?_)
   ·cases h
   refine CW.exit ?_
   exact⟨rfl,hs,rfl,rfl,rfl,rfl,rfl,rfl,rfl,rfl,(congrArg (fun n:Nat=>Value.int .i64 (n:Int)) hcntn.symm).symm,trivial⟩
 clear hs
 rintro f' w ⟨hs,hf⟩
 have ob:=hf.chain
 obtain⟨g,rfl⟩:=ob
 have hlt':=fun{w1:World} h=>len_abs (w0:=w1) hPt3 H.copy.ok h
 have hlw:=fun{w1:World} h=>len_abs (w0:=w1) hPw3 okt h
 have hcl':=H.copy.len
 by_cases hf0:f=0
 ·refine cq<|sr<|wm<|wm<|wV (run_bF (run_neq rfl rfl) (by exact fun h=>h rfl))<|wm ?_
  first | (refine WL.yes rfl rfl rfl ?_;refine WL.val rfl (run_move) ?_) | refine WL.no rfl rfl rfl (.inl rfl) ?_ | refine WL.no rfl rfl rfl (.inr rfl) ?_
  refine wy<|wV (run_bT (run_eql rfl rfl) (by exact hf0)) ?_
  first | (refine WL.yes rfl rfl rfl ?_;refine WL.val rfl (run_move) ?_) | refine WL.no rfl rfl rfl (.inl rfl) ?_ | refine WL.no rfl rfl rfl (.inr rfl) ?_
  first | (refine WL.yes rfl rfl rfl ?_;refine WL.val rfl (run_move) ?_) | refine WL.no rfl rfl rfl (.inl rfl) ?_ | refine WL.no rfl rfl rfl (.inr rfl) ?_
  first | (refine WL.yes rfl rfl rfl ?_;refine WL.val rfl (run_nilCheck rfl) ?_) | refine WL.no rfl rfl rfl (.inl rfl) ?_ | refine WL.no rfl rfl rfl (.inr rfl) ?_
  first | (refine WL.yes rfl rfl rfl ?_;refine WL.val rfl (run_field (o':=0) u42 rfl ty39 rfl rfl rfl) ?_) | refine WL.no rfl rfl rfl (.inl rfl) ?_ | refine WL.no rfl rfl rfl (.inr rfl) ?_
  refine wy<|wl ty39 rfl (((At.of_blk (hs.has _ (List.mem_append_left _ hvw3))).cell (j:=0) rfl))<|wy<|wE rfl (run_call en29 rfl rfl) (hlt' (Ab.tl hs)) ?_
  rintro e w ⟨rfl,hq⟩
  refine⟨_,rfl,?_⟩
  replace hs:=hs.callE hq
  first | (refine WL.yes rfl rfl rfl ?_;refine WL.val rfl (run_move) ?_) | refine WL.no rfl rfl rfl (.inl rfl) ?_ | refine WL.no rfl rfl rfl (.inr rfl) ?_
  refine wy<|wE rfl (run_call en29 rfl rfl) (hlw (hLw hs)) ?_
  rintro e w ⟨rfl,hq⟩
  refine⟨_,rfl,?_⟩
  replace hs:=hs.callE hq
  refine wy<|wV (run_bF (run_lss rfl rfl) (by omega)) ?_
  first | (refine WL.yes rfl rfl rfl ?_;(first | refine WL.val rfl (run_pickT rfl) ?_ | refine WL.val rfl (run_pickF rfl) ?_)) | refine WL.no rfl rfl rfl (.inl rfl) ?_ | refine WL.no rfl rfl rfl (.inr rfl) ?_
  first | refine WL.val rfl (run_pickT rfl) ?_ | refine WL.val rfl (run_pickF rfl) ?_
  refine wZ ?_
  first | refine CW.condP rfl (fun h=>?_) (fun h=>?_) | refine CW.cond rfl (fun h=>?_) (fun h=>?_)
  ·cases h
  have hsame:runs t' (rmOf 65536 32 67108864) [rootS d] ws0=r:=H.same d hr.symm he hf0
  have hld:=fun{w1:World} h=>load_spec (w0:=w1) (rn:=65536) (rd:=32) (rb:=67108864) hPt3 H.copy.ok (H.copy.few _ fewt) (by rw[List.length_map];omega) hd32 rmG_ok h
  simp only[hsame] at hld
  refine ck<|cq<|sr<|wm<|wV (run_bT (run_eql rfl rfl) (by exact hf0))<|wZ ?_
  first | refine CW.condP rfl (fun h=>?_) (fun h=>?_) | refine CW.cond rfl (fun h=>?_) (fun h=>?_)
  ·refine cq<|CW.any (A:=fun w=>∀p∈A3,w.heap[p.1]?=some p.2) (C:=fun w=>∀p∈A3,w.heap[p.1]?=some p.2) 1000000 12 mixedP rfl ?_
   replace hs:=hs.drew
   refine aM 0 rfl<|aV 1 rfl (fun w hs=>run_nilCheck rfl)<|aV 2 rfl (fun w hs=>run_field (o':=0) u42 rfl ty39 rfl rfl rfl)<|aV 3 rfl (fun w hs=>run_load1 ty39 rfl (((At.of_blk (hs _ hvw3)).cell (j:=0) rfl)))<|aV 4 rfl (fun w hs=>run_loadN ty44 rfl hzl (At.of_blk (hs _ hb123)))<|AL.one 5 (by kernel_rfl) rfl (fun p hp=>hs.has p (by simp[hp])) (fun p hp=>hs.has p (by simp[hp])) ?_
   refine wE rfl (run_call en28 rfl rfl) (great_spec _) ?_
   rintro e w ⟨rfl,hq⟩
   refine⟨_,rfl,?_⟩
   replace hs:=hs.callE hq
   refine wZ<|⟨rfl,?_⟩
   refine AL.one 6 (by kernel_rfl) rfl (fun p hp=>hs.has p (by simp[hp])) (fun p hp=>hs.has p (by simp[hp])) ?_
   refine wE rfl (run_call en27 rfl rfl) (hld (Ab.tl hs)) ?_
   rintro e w ⟨v4,T4,Lv4,L4,D4,rfl,hP4,hO4,hTl4,hTn4,hTD4,hq4⟩
   refine⟨_,rfl,?_⟩
   replace hs:=Ab.t hs hq4
   refine wZ<|⟨rfl,?_⟩
   refine aM 7 rfl<|aV 8 rfl (fun w hs=>run_extract rfl rfl)<|aV 9 rfl (fun w hs=>run_extract rfl rfl)<|aV 10 rfl (fun w hs=>run_assign)<|aV 11 rfl (fun w hs=>run_assign)<|AL.end (by kernel_rfl) (fun p hp=>hs.has p (by simp[hp])) (fun p hp=>hs.has p (by simp[hp])) ?_
   have hTm:=hTl he
   have hTm4:=hTl4 he
   have hTlen:T.length=r.2.l.length:=by rw[←hTm,List.length_map]
   have hgl:=(hgd he).l
   have hgn:=(hgd he).n
   have hitems:=fun{w1:World} h1 h2 h3 h4=>sameIt_spec (u:=vl) (v:=v4) (T:=T) (T':=T4) w1 h1 h2 (by rw[hTm,hTm4]) h3 h4 (by omega)
   refine sr<|wm<|wV (run_bT (run_eql rfl rfl) (by exact he))<|wm ?_
   first | (refine WL.yes rfl rfl rfl ?_;refine WL.val rfl (run_move) ?_) | refine WL.no rfl rfl rfl (.inl rfl) ?_ | refine WL.no rfl rfl rfl (.inr rfl) ?_
   first | (refine WL.yes rfl rfl rfl ?_;refine WL.val rfl (run_move) ?_) | refine WL.no rfl rfl rfl (.inl rfl) ?_ | refine WL.no rfl rfl rfl (.inr rfl) ?_
   refine wy<|wE rfl (run_call en30 rfl rfl) (hitems (hOl.slH fun p hp=>hs.has p (by simp[hLl3 p hp])) (hO4.slH fun p hp=>hs.has p (by simp[hp])) (fun u hu=>(hTD3 u hu).sl fun p hp=>hs.has p (by simp[hp])) (fun u hu=>(hTD4 u hu).sl fun p hp=>hs.has p (List.mem_append_right _ (List.mem_append_right _ (List.mem_append_right _ (List.mem_append_right _ hp)))))) ?_
   rintro e w ⟨rfl,hq⟩
   refine⟨_,rfl,?_⟩
   replace hs:=hs.callE hq
   first | refine WL.val rfl (run_pickT rfl) ?_ | refine WL.val rfl (run_pickF rfl) ?_
   refine wA<|wZ<|CW.ret ?_
   refine fin_ret1 rfl ?_
   exact⟨rfl,hs.clear⟩
  ·cases h
 ·refine cq<|sr<|wm<|wm<|wV (run_bF (run_neq rfl rfl) (by exact fun h=>h rfl))<|wm ?_
  first | (refine WL.yes rfl rfl rfl ?_;refine WL.val rfl (run_move) ?_) | refine WL.no rfl rfl rfl (.inl rfl) ?_ | refine WL.no rfl rfl rfl (.inr rfl) ?_
  refine wy<|wV (run_bF (run_eql rfl rfl) (by exact hf0)) ?_
  first | (refine WL.yes rfl rfl rfl ?_;refine WL.val rfl (run_move) ?_) | refine WL.no rfl rfl rfl (.inl rfl) ?_ | refine WL.no rfl rfl rfl (.inr rfl) ?_
  first | (refine WL.yes rfl rfl rfl ?_;refine WL.val rfl (run_move) ?_) | refine WL.no rfl rfl rfl (.inl rfl) ?_ | refine WL.no rfl rfl rfl (.inr rfl) ?_
  first | (refine WL.yes rfl rfl rfl ?_;refine WL.val rfl (run_nilCheck rfl) ?_) | refine WL.no rfl rfl rfl (.inl rfl) ?_ | refine WL.no rfl rfl rfl (.inr rfl) ?_
  first | (refine WL.yes rfl rfl rfl ?_;refine WL.val rfl (run_field (o':=0) u42 rfl ty39 rfl rfl rfl) ?_) | refine WL.no rfl rfl rfl (.inl rfl) ?_ | refine WL.no rfl rfl rfl (.inr rfl) ?_
  first | (refine WL.yes rfl rfl rfl ?_;(first | refine WL.val rfl (run_load1 ty39 rfl (hs.c0 rfl)) ?_ | refine WL.val rfl (run_load1 ty39 rfl (hs.c1 rfl)) ?_ | refine WL.val rfl (run_load1 ty39 rfl (hs.c2 rfl)) ?_ | refine WL.val rfl (run_load1 ty39 rfl (hs.c3 rfl)) ?_ | refine WL.val rfl (run_load1 ty39 rfl (hs.c4 rfl)) ?_ | refine WL.val rfl (run_load1 ty39 rfl (hs.c5 rfl)) ?_ | refine WL.val rfl (run_load1 ty39 rfl (hs.c0 rfl)) ?_)) | refine WL.no rfl rfl rfl (.inl rfl) ?_ | refine WL.no rfl rfl rfl (.inr rfl) ?_
  first | refine WL.no rfl rfl rfl (.inl rfl) ?_ | refine WL.no rfl rfl rfl (.inr rfl) ?_
  first | (refine WL.yes rfl rfl rfl ?_;refine WL.val rfl (run_move) ?_) | refine WL.no rfl rfl rfl (.inl rfl) ?_ | refine WL.no rfl rfl rfl (.inr rfl) ?_
  first | refine WL.no rfl rfl rfl (.inl rfl) ?_ | refine WL.no rfl rfl rfl (.inr rfl) ?_
  first | (refine WL.yes rfl rfl rfl ?_;refine WL.val rfl (run_lss rfl rfl) ?_) | refine WL.no rfl rfl rfl (.inl rfl) ?_ | refine WL.no rfl rfl rfl (.inr rfl) ?_
  first | (refine WL.yes rfl rfl rfl ?_;(first | refine WL.val rfl (run_pickT rfl) ?_ | refine WL.val rfl (run_pickF rfl) ?_)) | refine WL.no rfl rfl rfl (.inl rfl) ?_ | refine WL.no rfl rfl rfl (.inr rfl) ?_
  first | refine WL.val rfl (run_pickT rfl) ?_ | refine WL.val rfl (run_pickF rfl) ?_
  refine wZ ?_
  first | refine CW.condP rfl (fun h=>?_) (fun h=>?_) | refine CW.cond rfl (fun h=>?_) (fun h=>?_)
  ·cases h
  have hl1:(t'.limit 67108864).1=0:=by rw[AS.limit,if_pos (by decide)]
  have hlX:usedX (t'.limit 67108864).2.X=usedX t'.X:=by rw[AS.limit,if_pos (by decide)]
  have hlk:s.k=(t'.limit 67108864).2.k:=by rw[AS.limit,if_pos (by decide)];exact hkk.trans H.copy.k.symm
  have hlok:=H.copy.ok.limit 67108864
  have hlfew:(t'.limit 67108864).2.Few 101000000:=((H.copy.few _ fewt).limit 67108864).mono (by rw[List.length_map];omega)
  have hlim:=fun{w1:World} h=>limit_abs (w0:=w1) hPt3 H.copy.ok h 67108864
  have habF:=fun{n2:Nat}{f2:Int}{t2:AS} h1 h2=>abTwo (n2:=n2) (f2:=f2) (t2:=t2) ok hsm hkk hd32 hr he (W.go he) H h1 h2
  have ob:∃tl,(t'.limit 67108864).2=tl:=⟨_,rfl⟩
  obtain⟨tl,htl⟩:=ob
  rw[htl] at hlX hlk hlok hlfew
  simp only[hl1,htl] at hlim habF
  have husd:∀{w1:World},Lives (L3++E3) w1→Calls Tryz.prog 55 #[.pointer (some ⟨bp,0,none⟩)] w1 (Ret0 (.int .i64 (usedX s.X:Nat)) w1):=fun {w1} h=>used_abs (s:=s.gotN (r.2.g+r.2.g+r.2.g)) (w0:=w1) hPs3 (ok.gotN _) h
  have hu1:=hlok.used
  have hu2:=ok.used
  have ob:∃n2 f2 t2,cpR r s tl of=(n2,f2,t2):=⟨_,_,_,rfl⟩
  obtain⟨n2,f2,t2,hcr2⟩:=ob
  have hco2:copyR tl (of.map fun x=>(x,(s.get x).1)) 0=(n2,f2,t2):=by rw[←cpR_ok he];exact hcr2
  have hcp2:=fun{w:World}{E L Lt:List (Nat×Obj)} hT{G:Nat} (hG:G≤1000000) (hP:PRep bp (s.gotN G) E L) h=>hcopy (w:=w) (t:=tl) (Lt:=Lt) hG hlk hlok hlfew hT hP h
  simp only[cp2_same hlk,hcr2] at hcp2
  refine ck<|cq<|sr<|wm<|wV (run_bF (run_eql rfl rfl) (by exact hf0))<|wZ ?_
  first | refine CW.condP rfl (fun h=>?_) (fun h=>?_) | refine CW.cond rfl (fun h=>?_) (fun h=>?_)
  ·cases h
  by_cases hus:67108864<usedX tl.X+usedX s.X
  ·refine ck<|cq<|cq<|CW.any (A:=fun w=>∀p∈A3,w.heap[p.1]?=some p.2) (C:=fun w=>∀p∈A3,w.heap[p.1]?=some p.2) 1000000 20 mixedP rfl ?_
   replace hs:=hs.drew
   refine aM 0 rfl<|aV 1 rfl (fun w hs=>run_nilCheck rfl)<|aV 2 rfl (fun w hs=>run_field (o':=0) u42 rfl ty39 rfl rfl rfl)<|aV 3 rfl (fun w hs=>run_load1 ty39 rfl (((At.of_blk (hs _ hvw3)).cell (j:=0) rfl)))<|AL.one 4 (by kernel_rfl) rfl (fun p hp=>hs.has p (by simp[hp])) (fun p hp=>hs.has p (by simp[hp])) ?_
   refine wE rfl (run_call en54 rfl rfl) (hlim (Ab.tl hs)) ?_
   rintro e w ⟨L4,rfl,hPl,hq⟩
   refine⟨_,rfl,?_⟩
   replace hs:=Ab.set hs hq
   refine wZ<|⟨rfl,?_⟩
   refine aV 5 rfl (fun w hs=>run_bF (run_neq rfl rfl) (by exact fun h=>h rfl))<|aM 6 rfl<|AL.valY 7 rfl (by kernel_rfl) rfl rfl rfl rfl (fun w hs=>run_move) ?_
   refine AL.valY 8 rfl (by kernel_rfl) rfl rfl rfl rfl (fun w hs=>run_nilCheck rfl) ?_
   refine AL.valY 9 rfl (by kernel_rfl) rfl rfl rfl rfl (fun w hs=>run_field (o':=0) u42 rfl ty39 rfl rfl rfl) ?_
   refine AL.valY 10 rfl (by kernel_rfl) rfl rfl rfl rfl (fun w hs=>run_load1 ty39 rfl (((At.of_blk (hs _ hvw3)).cell (j:=0) rfl))) ?_
   refine AL.valY 12 rfl (by kernel_rfl) rfl rfl rfl rfl (fun w hs=>run_move) ?_
   refine AL.valY 13 rfl (by kernel_rfl) rfl rfl rfl rfl (fun w hs=>run_nilCheck rfl) ?_
   refine AL.valY 14 rfl (by kernel_rfl) rfl rfl rfl rfl (fun w hs=>run_field (o':=0) u42 rfl ty39 rfl rfl rfl) ?_
   refine AL.valY 15 rfl (by kernel_rfl) rfl rfl rfl rfl (fun w hs=>run_load1 ty39 rfl (((At.of_blk (hs _ hbw3)).cell (j:=0) rfl))) ?_
   refine AL.one 11 (by kernel_rfl) rfl (fun p hp=>hs.has p (by simp[hp])) (fun p hp=>hs.has p (by simp[hp])) ?_
   refine wy<|wE rfl (run_call en55 rfl rfl) (used_abs hPl hlok (Ab.tl hs)) ?_
   rintro e w ⟨rfl,hq2⟩
   refine⟨_,rfl,?_⟩
   replace hs:=hs.callE hq2
   refine wZ<|⟨rfl,?_⟩
   refine AL.one 16 (by kernel_rfl) rfl (fun p hp=>hs.has p (by simp[hp])) (fun p hp=>hs.has p (by simp[hp])) ?_
   refine wy<|wE rfl (run_call en55 rfl rfl) (husd (Ab.sl hs)) ?_
   rintro e w ⟨rfl,hq3⟩
   refine⟨_,rfl,?_⟩
   replace hs:=hs.callE hq3
   refine wZ<|⟨rfl,?_⟩
   refine AL.valY 17 rfl (by kernel_rfl) rfl rfl rfl rfl (fun w hs=>run_add (c:=((usedX tl.X+usedX s.X:Nat):Int)) rfl rfl (by omega) (by omega)) ?_
   refine AL.valY 18 rfl (by kernel_rfl) rfl rfl rfl rfl (fun w hs=>run_bT (run_gtr rfl rfl) (by omega)) ?_
   first | refine AL.val 19 rfl (by kernel_rfl) rfl (fun w hs=>run_pickT rfl) ?_ | refine AL.val 19 rfl (by kernel_rfl) rfl (fun w hs=>run_pickF rfl) ?_
   refine AL.end (by kernel_rfl) (fun p hp=>hs.has p (by simp[hp])) (fun p hp=>hs.has p (by simp[hp])) ?_
   first | refine CW.condP rfl (fun h=>?_) (fun h=>?_) | refine CW.cond rfl (fun h=>?_) (fun h=>?_)
   ·refine sr<|wA<|wZ<|CW.ret ?_
    refine fin_ret1 rfl ?_
    exact⟨rfl,hs.clear⟩
   ·cases h
  ·refine ck<|cq<|cq<|CW.any (A:=fun w=>∀p∈A3,w.heap[p.1]?=some p.2) (C:=fun w=>∀p∈A3,w.heap[p.1]?=some p.2) 1000000 20 mixedP rfl ?_
   replace hs:=hs.drew
   refine aM 0 rfl<|aV 1 rfl (fun w hs=>run_nilCheck rfl)<|aV 2 rfl (fun w hs=>run_field (o':=0) u42 rfl ty39 rfl rfl rfl)<|aV 3 rfl (fun w hs=>run_load1 ty39 rfl (((At.of_blk (hs _ hvw3)).cell (j:=0) rfl)))<|AL.one 4 (by kernel_rfl) rfl (fun p hp=>hs.has p (by simp[hp])) (fun p hp=>hs.has p (by simp[hp])) ?_
   refine wE rfl (run_call en54 rfl rfl) (hlim (Ab.tl hs)) ?_
   rintro e w ⟨L4,rfl,hPl,hq⟩
   refine⟨_,rfl,?_⟩
   replace hs:=Ab.set hs hq
   refine wZ<|⟨rfl,?_⟩
   refine aV 5 rfl (fun w hs=>run_bF (run_neq rfl rfl) (by exact fun h=>h rfl))<|aM 6 rfl<|AL.valY 7 rfl (by kernel_rfl) rfl rfl rfl rfl (fun w hs=>run_move) ?_
   refine AL.valY 8 rfl (by kernel_rfl) rfl rfl rfl rfl (fun w hs=>run_nilCheck rfl) ?_
   refine AL.valY 9 rfl (by kernel_rfl) rfl rfl rfl rfl (fun w hs=>run_field (o':=0) u42 rfl ty39 rfl rfl rfl) ?_
   refine AL.valY 10 rfl (by kernel_rfl) rfl rfl rfl rfl (fun w hs=>run_load1 ty39 rfl (((At.of_blk (hs _ hvw3)).cell (j:=0) rfl))) ?_
   refine AL.valY 12 rfl (by kernel_rfl) rfl rfl rfl rfl (fun w hs=>run_move) ?_
   refine AL.valY 13 rfl (by kernel_rfl) rfl rfl rfl rfl (fun w hs=>run_nilCheck rfl) ?_
   refine AL.valY 14 rfl (by kernel_rfl) rfl rfl rfl rfl (fun w hs=>run_field (o':=0) u42 rfl ty39 rfl rfl rfl) ?_
   refine AL.valY 15 rfl (by kernel_rfl) rfl rfl rfl rfl (fun w hs=>run_load1 ty39 rfl (((At.of_blk (hs _ hbw3)).cell (j:=0) rfl))) ?_
   refine AL.one 11 (by kernel_rfl) rfl (fun p hp=>hs.has p (by simp[hp])) (fun p hp=>hs.has p (by simp[hp])) ?_
   refine wy<|wE rfl (run_call en55 rfl rfl) (used_abs hPl hlok (Ab.tl hs)) ?_
   rintro e w ⟨rfl,hq2⟩
   refine⟨_,rfl,?_⟩
   replace hs:=hs.callE hq2
   refine wZ<|⟨rfl,?_⟩
   refine AL.one 16 (by kernel_rfl) rfl (fun p hp=>hs.has p (by simp[hp])) (fun p hp=>hs.has p (by simp[hp])) ?_
   refine wy<|wE rfl (run_call en55 rfl rfl) (husd (Ab.sl hs)) ?_
   rintro e w ⟨rfl,hq3⟩
   refine⟨_,rfl,?_⟩
   replace hs:=hs.callE hq3
   refine wZ<|⟨rfl,?_⟩
   refine AL.valY 17 rfl (by kernel_rfl) rfl rfl rfl rfl (fun w hs=>run_add (c:=((usedX tl.X+usedX s.X:Nat):Int)) rfl rfl (by omega) (by omega)) ?_
   refine AL.valY 18 rfl (by kernel_rfl) rfl rfl rfl rfl (fun w hs=>run_bF (run_gtr rfl rfl) (by omega)) ?_
   first | refine AL.val 19 rfl (by kernel_rfl) rfl (fun w hs=>run_pickT rfl) ?_ | refine AL.val 19 rfl (by kernel_rfl) rfl (fun w hs=>run_pickF rfl) ?_
   refine AL.end (by kernel_rfl) (fun p hp=>hs.has p (by simp[hp])) (fun p hp=>hs.has p (by simp[hp])) ?_
   have hab:=habF (by omega) hco2
   have hab2:n2+n≤l0.length:=by rw[←hl0];exact hab.2
   first | refine CW.condP rfl (fun h=>?_) (fun h=>?_) | refine CW.cond rfl (fun h=>?_) (fun h=>?_)
   ·cases h
   refine ck<|cq<|CW.any (A:=fun w=>∀p∈A3,w.heap[p.1]?=some p.2) (C:=fun w=>∀p∈A3,w.heap[p.1]?=some p.2) 1000000 16 mixedP rfl ?_
   replace hs:=hs.drew
   refine aM 0 rfl<|aV 1 rfl (fun w hs=>run_nilCheck rfl)<|aV 2 rfl (fun w hs=>run_field (o':=0) u42 rfl ty39 rfl rfl rfl)<|aV 3 rfl (fun w hs=>run_load1 ty39 rfl (((At.of_blk (hs _ hbw3)).cell (j:=0) rfl)))<|aM 4 rfl<|aV 5 rfl (fun w hs=>run_nilCheck rfl)<|aV 6 rfl (fun w hs=>run_field (o':=0) u42 rfl ty39 rfl rfl rfl)<|aV 7 rfl (fun w hs=>run_load1 ty39 rfl (((At.of_blk (hs _ hvw3)).cell (j:=0) rfl)))<|aV 8 rfl (fun w hs=>run_loadN ty44 rfl hzl (At.of_blk (hs _ hb123)))<|AL.one 9 (by kernel_rfl) rfl (fun p hp=>hs.has p (by simp[hp])) (fun p hp=>hs.has p (by simp[hp])) ?_
   refine wE rfl (run_call en28 rfl rfl) (great_spec _) ?_
   rintro e w ⟨rfl,hq⟩
   refine⟨_,rfl,?_⟩
   replace hs:=hs.callE hq
   refine wZ<|⟨rfl,?_⟩
   refine AL.one 10 (by kernel_rfl) rfl (fun p hp=>hs.has p (by simp[hp])) (fun p hp=>hs.has p (by simp[hp])) ?_
   refine wE rfl (run_call en25 rfl rfl) (hcp2 hPl (by omega) hPs3 (Ab.two hs)) ?_
   rintro e w ⟨L5,O5,D5,rfl,hP5,hPs5,hq5⟩
   refine⟨_,rfl,?_⟩
   replace hs:=Ab.cp hs hq5
   refine wZ<|⟨rfl,?_⟩
   refine aM 11 rfl<|aV 12 rfl (fun w hs=>run_extract rfl rfl)<|aV 13 rfl (fun w hs=>run_extract rfl rfl)<|aV 14 rfl (fun w hs=>run_assign)<|aV 15 rfl (fun w hs=>run_assign)<|AL.end (by kernel_rfl) (fun p hp=>hs.has p (by simp[hp])) (fun p hp=>hs.has p (by simp[hp])) ?_
   rcases hab.1 with h | h
   ·refine sr<|wm<|wV (run_bF (run_eql rfl rfl) (by rw[h];decide))<|wm ?_
    first | (refine WL.yes rfl rfl rfl ?_;refine WL.val rfl (run_move) ?_) | refine WL.no rfl rfl rfl (.inl rfl) ?_ | refine WL.no rfl rfl rfl (.inr rfl) ?_
    refine wy<|wV (run_bT (run_eql rfl rfl) (by exact h)) ?_
    first | (refine WL.yes rfl rfl rfl ?_;refine WL.val rfl (run_move) ?_) | refine WL.no rfl rfl rfl (.inl rfl) ?_ | refine WL.no rfl rfl rfl (.inr rfl) ?_
    first | (refine WL.yes rfl rfl rfl ?_;refine WL.val rfl (run_move) ?_) | refine WL.no rfl rfl rfl (.inl rfl) ?_ | refine WL.no rfl rfl rfl (.inr rfl) ?_
    first | (refine WL.yes rfl rfl rfl ?_;refine WL.val rfl (run_move) ?_) | refine WL.no rfl rfl rfl (.inl rfl) ?_ | refine WL.no rfl rfl rfl (.inr rfl) ?_
    refine wy<|wV (run_add (c:=((n2+n:Nat):Int)) rfl rfl (by omega) (by omega)) ?_
    first | (refine WL.yes rfl rfl rfl ?_;refine WL.val rfl (run_move) ?_) | refine WL.no rfl rfl rfl (.inl rfl) ?_ | refine WL.no rfl rfl rfl (.inr rfl) ?_
    refine wy<|wV (run_bT (run_geq rfl rfl) (by omega)) ?_
    first | (refine WL.yes rfl rfl rfl ?_;(first | refine WL.val rfl (run_pickT rfl) ?_ | refine WL.val rfl (run_pickF rfl) ?_)) | refine WL.no rfl rfl rfl (.inl rfl) ?_ | refine WL.no rfl rfl rfl (.inr rfl) ?_
    first | (refine WL.yes rfl rfl rfl ?_;refine WL.val rfl (run_move) ?_) | refine WL.no rfl rfl rfl (.inl rfl) ?_ | refine WL.no rfl rfl rfl (.inr rfl) ?_
    first | (refine WL.yes rfl rfl rfl ?_;refine WL.val rfl (run_move) ?_) | refine WL.no rfl rfl rfl (.inl rfl) ?_ | refine WL.no rfl rfl rfl (.inr rfl) ?_
    first | (refine WL.yes rfl rfl rfl ?_;refine WL.val rfl (run_move) ?_) | refine WL.no rfl rfl rfl (.inl rfl) ?_ | refine WL.no rfl rfl rfl (.inr rfl) ?_
    refine wy<|wV (run_add (c:=((n2+n:Nat):Int)) rfl rfl (by omega) (by omega)) ?_
    first | (refine WL.yes rfl rfl rfl ?_;refine WL.val rfl (run_move) ?_) | refine WL.no rfl rfl rfl (.inl rfl) ?_ | refine WL.no rfl rfl rfl (.inr rfl) ?_
    first | (refine WL.yes rfl rfl rfl ?_;refine WL.val rfl (run_lenSl u35 rfl) ?_) | refine WL.no rfl rfl rfl (.inl rfl) ?_ | refine WL.no rfl rfl rfl (.inr rfl) ?_
    refine wy<|wV (run_bT (run_leq rfl rfl) (by omega)) ?_
    first | (refine WL.yes rfl rfl rfl ?_;(first | refine WL.val rfl (run_pickT rfl) ?_ | refine WL.val rfl (run_pickF rfl) ?_)) | refine WL.no rfl rfl rfl (.inl rfl) ?_ | refine WL.no rfl rfl rfl (.inr rfl) ?_
    first | refine WL.val rfl (run_pickT rfl) ?_ | refine WL.val rfl (run_pickF rfl) ?_
    refine wA<|wZ<|CW.ret ?_
    refine fin_ret1 rfl ?_
    exact⟨rfl,hs.clear⟩
   ·refine sr<|wm<|wV (run_bT (run_eql rfl rfl) (by exact h))<|wm ?_
    first | (refine WL.yes rfl rfl rfl ?_;refine WL.val rfl (run_move) ?_) | refine WL.no rfl rfl rfl (.inl rfl) ?_ | refine WL.no rfl rfl rfl (.inr rfl) ?_
    first | (refine WL.yes rfl rfl rfl ?_;refine WL.val rfl (run_eql rfl rfl) ?_) | refine WL.no rfl rfl rfl (.inl rfl) ?_ | refine WL.no rfl rfl rfl (.inr rfl) ?_
    first | (refine WL.yes rfl rfl rfl ?_;refine WL.val rfl (run_move) ?_) | refine WL.no rfl rfl rfl (.inl rfl) ?_ | refine WL.no rfl rfl rfl (.inr rfl) ?_
    first | (refine WL.yes rfl rfl rfl ?_;refine WL.val rfl (run_move) ?_) | refine WL.no rfl rfl rfl (.inl rfl) ?_ | refine WL.no rfl rfl rfl (.inr rfl) ?_
    first | (refine WL.yes rfl rfl rfl ?_;refine WL.val rfl (run_move) ?_) | refine WL.no rfl rfl rfl (.inl rfl) ?_ | refine WL.no rfl rfl rfl (.inr rfl) ?_
    first | (refine WL.yes rfl rfl rfl ?_;refine WL.val rfl (run_add rfl rfl rfl (by omega)) ?_) | refine WL.no rfl rfl rfl (.inl rfl) ?_ | refine WL.no rfl rfl rfl (.inr rfl) ?_
    first | (refine WL.yes rfl rfl rfl ?_;refine WL.val rfl (run_move) ?_) | refine WL.no rfl rfl rfl (.inl rfl) ?_ | refine WL.no rfl rfl rfl (.inr rfl) ?_
    first | (refine WL.yes rfl rfl rfl ?_;refine WL.val rfl (run_geq rfl rfl) ?_) | refine WL.no rfl rfl rfl (.inl rfl) ?_ | refine WL.no rfl rfl rfl (.inr rfl) ?_
    first | (refine WL.yes rfl rfl rfl ?_;(first | refine WL.val rfl (run_pickT rfl) ?_ | refine WL.val rfl (run_pickF rfl) ?_)) | refine WL.no rfl rfl rfl (.inl rfl) ?_ | refine WL.no rfl rfl rfl (.inr rfl) ?_
    first | (refine WL.yes rfl rfl rfl ?_;refine WL.val rfl (run_move) ?_) | refine WL.no rfl rfl rfl (.inl rfl) ?_ | refine WL.no rfl rfl rfl (.inr rfl) ?_
    first | (refine WL.yes rfl rfl rfl ?_;refine WL.val rfl (run_move) ?_) | refine WL.no rfl rfl rfl (.inl rfl) ?_ | refine WL.no rfl rfl rfl (.inr rfl) ?_
    first | (refine WL.yes rfl rfl rfl ?_;refine WL.val rfl (run_move) ?_) | refine WL.no rfl rfl rfl (.inl rfl) ?_ | refine WL.no rfl rfl rfl (.inr rfl) ?_
    first | (refine WL.yes rfl rfl rfl ?_;refine WL.val rfl (run_add rfl rfl rfl (by omega)) ?_) | refine WL.no rfl rfl rfl (.inl rfl) ?_ | refine WL.no rfl rfl rfl (.inr rfl) ?_
    first | (refine WL.yes rfl rfl rfl ?_;refine WL.val rfl (run_move) ?_) | refine WL.no rfl rfl rfl (.inl rfl) ?_ | refine WL.no rfl rfl rfl (.inr rfl) ?_
    first | (refine WL.yes rfl rfl rfl ?_;refine WL.val rfl (run_lenSl u35 rfl) ?_) | refine WL.no rfl rfl rfl (.inl rfl) ?_ | refine WL.no rfl rfl rfl (.inr rfl) ?_
    first | (refine WL.yes rfl rfl rfl ?_;refine WL.val rfl (run_leq rfl rfl) ?_) | refine WL.no rfl rfl rfl (.inl rfl) ?_ | refine WL.no rfl rfl rfl (.inr rfl) ?_
    first | (refine WL.yes rfl rfl rfl ?_;(first | refine WL.val rfl (run_pickT rfl) ?_ | refine WL.val rfl (run_pickF rfl) ?_)) | refine WL.no rfl rfl rfl (.inl rfl) ?_ | refine WL.no rfl rfl rfl (.inr rfl) ?_
    first | refine WL.val rfl (run_pickT rfl) ?_ | refine WL.val rfl (run_pickF rfl) ?_
    refine wA<|wZ<|CW.ret ?_
    refine fin_ret1 rfl ?_
    exact⟨rfl,hs.clear⟩
end
end Go.Gx
