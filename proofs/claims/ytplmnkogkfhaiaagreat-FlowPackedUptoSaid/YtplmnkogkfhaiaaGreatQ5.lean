/- node.entry and what reading entries gives. node.Decode's reading function. mint.Read of node.Decode's reading function: its deferred call; node.Decode. mint.Read of node.Decode's reading function; node.Decode. The document's Reader: number, num, take. The document's Reader: num, Most, take, Read, Le -/
import Derived.Test.YtplmnkogkfhaiaaGreatQ4
import Derived.Test.YtplmnkogkfhaiaaGreatQ1
set_option linter.unusedVariables false
set_option linter.unusedSimpArgs false
set_option maxRecDepth 100000
namespace Go.Gx
open Go.Proofs List
def padD (d:List UInt8):List UInt8:=d++List.replicate (32 - d.length) 0
def badD (d:List UInt8):Prop:=32<d.length∨0<d.length∧d.getLast?=some 0
instance (d:List UInt8):Decidable (badD d):=by unfold badD;exact inferInstance
def entP (a:List UInt8) (bs:List UInt8) (p:Nat):Except Int (Ent×Nat):=
 match numP bs p with
 | .error e=>.error e
 | .ok (k,p1)=>if k=2∨k=1 then
   match bytesP bs p1 with
   | .error e=>.error e
   | .ok (s,p2)=>if wrongE k s a=0 then
     match bytesP bs p2 with
     | .error e=>.error e
     | .ok (d,p3)=>if badD d then .error 51 else .ok (⟨s,k,padD d⟩,p3)
    else .error 51
  else .error 51
def EntR (b:Nat) (bv:Value) (w0:World):Except Int (Ent×Nat)→Ending→World→Prop
 | .ok (x,q),e,w'=>e=.returned (.agg x.cells.toArray)∧Step [b] [RdB b bv q] w0 w'
 | .error er,e,w'=>Thrown b bv er w0 e w'
theorem EntR.err{b:Nat}{bv:Value}{w0 w':World}{ed:Ending}{r:Except Int (Ent×Nat)}{er:Int} (hr:r=.error er) (h:Thrown b bv er w0 ed w'):EntR b bv w0 r ed w':=by subst hr;exact h
theorem EntR.ok{b:Nat}{bv:Value}{w0 w':World}{ed:Ending}{r:Except Int (Ent×Nat)}{x:Ent}{q:Nat} (hr:r=.ok (x,q)) (he:ed=.returned (.agg x.cells.toArray)) (hs:Step [b] [RdB b bv q] w0 w'):EntR b bv w0 r ed w':=by subst hr;exact⟨he,hs⟩
theorem bld_kind (k:Nat) (w:World):(Instr.build 115 #[(1,.int .i64 k)]).run Tryz.prog w=.ok (.agg (Ent.cells ⟨[],k,List.replicate 32 0⟩).toArray) w:=by kernel_rfl
theorem numP_le{bs:List UInt8}{p k q:Nat} (h:numP bs p=.ok (k,q)):k≤9223372036854775807:=by have:=numP_ok h;omega
theorem bytesP_len{bs s:List UInt8}{p q:Nat} (h:bytesP bs p=.ok (s,q)):s.length≤bs.length:=by
 unfold bytesP at h
 split at h
 ·cases h
 ·split at h
  ·cases h
  ·injection h with h;injection h with h2 h3;subst h2;simp;omega
theorem pad_splice (k:Nat) (s d:List UInt8) (hd:d.length≤32):splice ((Ent.cells ⟨[],k,List.replicate 32 0⟩).set 0 (str s)) 2 ((u8s d).take (min d.length 32*1))=Ent.cells ⟨s,k,padD d⟩:=by
 rw[Nat.min_eq_left hd,Nat.mul_one,take_of_length_le (by simp[u8s])]
 have e:(u8s (List.replicate 32 0)).drop d.length=u8s (List.replicate (32 - d.length) 0):=by simp only[u8s,map_replicate,drop_replicate]
 simp only[splice,Ent.cells,padD,set_cons_zero,take_succ_cons,take_zero,u8s_append,u8s_len]
 rw[Nat.add_comm 2,←e]
 rfl
theorem run_sliceArr0{P:Program}{f:Slots}{w:World}{d:Option Tmp}{ty:TypeId}{pos:String}{af:Array Edge}{x:Operand}{T E:TypeId}{agg:Bool}{n bytes:Nat}{zs:List Value}{bk off m:Nat} (ht:P.underlying T=some (.array m E)) (hE:Ty P E agg n bytes zs) (hx:ev f x=.pointer (some ⟨bk,off,none⟩)) :
  (execOp (ev f) ⟨d,.slice T x none none none,ty,pos,af,none⟩).run P w=.ok (.value (.slice (some ⟨bk,off,none⟩) m m)) w:=by
 rw[run_sliceArr (xl:=none) (xh:=none) (lo:=0) (hi:=m) ht hE hx rfl rfl (Nat.zero_le _) (Nat.le_refl _)]
 simp[cutSl]
section
variable{P:Program}{n:Nat}{f:Slots}{ds:List Deferred}{w:World}
theorem CW.sM{Q:Post}{x y:Code} (M:Slots→World→Prop) (h:CW P x (thenC (fun f' ds' w'=>ds'=ds∧M f' w') Q) n f ds w) (hr:∀f' w',M f' w'→CW P y Q n f' ds w'):CW P (.seq x y) Q n f ds w:=
 CW.seq (h.mono fun e f' ds' w' hq=>by
  cases e with
  | normal=>
   obtain⟨rfl,hM⟩:=hq
   exact hr _ _ hM
  | exit id=>exact hq
  | goto id=>exact hq
  | ret=>exact hq
  | panic ch=>exact hq
  | outgrown=>exact hq)
end
theorem entry_at{b p:Nat}{bs a:List UInt8}{bv:Value}{r:Except Int (Ent×Nat)} (hr:entP a bs p=r) (w0:World) (h:RdOk w0 b bs bv p) (hpl:p≤bs.length) (hal:a.length≤9223372036854775807):CP 129 #[.pointer (some ⟨b,0,none⟩),str a] w0 (EntR b bv w0 r):=by
 have hlen:=h.len
 have hs:=Step.append_comm (L1:=[RdB b bv p]) (L2:=[]) h.own
 unfold entP at hr
 refine calls (n:=57) Tryz.func129 rfl rfl rfl ?_
 refine sr<|WL.alloc ty115 rfl hs (fun b4 w hs=>?_)
 refine wZ ?_
 cases h1:numP bs p with
 | error er=>
  rw[h1] at hr
  refine sr<|wm<|WL.enterX (run_call en126 rfl rfl) (num_at h1 _ (h.next (Step.append_comm (L1:=[_]) hs)) hpl) ?_
  rintro e w ⟨p',rfl,hq⟩
  refine⟨_,rfl,?_⟩
  exact fin_panic (.err hr.symm (.on (Step.append_comm (L1:=[_]) hs) ⟨p',rfl,hq⟩))
 | ok kp=>
  obtain⟨k,p1⟩:=kp
  rw[h1] at hr
  have hb1:=numP_ok h1
  have hkb:=numP_le h1
  simp only at hr
  have hst:∀{L:List (Nat×Obj)}{w1 w2:World}{q:Nat}{L2:List (Nat×Obj)},Step [b] (L++[RdB b bv q]) w0 w1→Step [b] L2 w1 w2→Step [b] (L2++L) w0 w2:=fun h1 h2=>Step.call (L1:=[RdB b bv _]) h1.append_comm h2
  refine sr<|wm<|wE rfl (run_call en126 rfl rfl) (num_at h1 _ (h.next (Step.append_comm (L1:=[_]) hs)) hpl) ?_
  rintro e w ⟨rfl,hq⟩
  refine⟨_,rfl,?_⟩
  replace hs:=(hst (L:=[_]) hs hq).append_comm
  refine wV (run_build rfl (bld_kind _ _))<|WL.alloc ty115 rfl hs (fun b5 w hs=>?_)
  refine WL.storeAll ty115 rfl rfl (rfl) (Ent.cells1 _) (hs) rfl (fun w hs=>?_)
  refine wZ ?_
  replace hs:Step [b] ((b5,blk 115 (Ent.cells ⟨[],k,List.replicate 32 0⟩))::([(b4,blk 115 (Ent.cells ⟨[],0,List.replicate 32 0⟩))]++[RdB b bv p1])) w0 w:=hs
  by_cases hk:k=2∨k=1
  ·rw[if_pos hk] at hr
   refine CW.sM (fun f w=>Step [b] ((b5,blk 115 (Ent.cells ⟨[],k,List.replicate 32 0⟩))::([(b4,blk 115 (Ent.cells ⟨[],0,List.replicate 32 0⟩))]++[RdB b bv p1])) w0 w∧Holds f [(0,.pointer (some ⟨b,0,none⟩)),(1,str a),(4,.pointer (some ⟨b4,0,none⟩)),(5,.pointer (some ⟨b5,0,none⟩))]) ?_ ?_
   ·rcases hk with rfl | rfl
    ·refine sr<|wF 1 u115 rfl ty3 rfl<|wl ty3 rfl (hs.c0 rfl)<|wV (run_bT (run_neq rfl rfl) (by show((2:Nat):Int)≠1;decide))<|wm<|wy<|wF 1 u115 rfl ty3 rfl<|wy<|wl ty3 rfl (hs.c0 rfl)<|wy<|wV (run_bF (run_neq rfl rfl) (by show ¬((2:Nat):Int)≠2;decide))<|wV (run_pickT rfl)<|wZ ?_
     refine cF rfl<|ck ?_
     exact⟨rfl,hs,rfl,rfl,rfl,rfl,trivial⟩
    ·refine sr<|wF 1 u115 rfl ty3 rfl<|wl ty3 rfl (hs.c0 rfl)<|wV (run_bF (run_neq rfl rfl) (by show ¬((1:Nat):Int)≠1;decide))<|wm<|wz<|wz<|wz<|wV (run_pickF rfl)<|wZ<|cF rfl<|ck ?_
     exact⟨rfl,hs,rfl,rfl,rfl,rfl,trivial⟩
   clear hs
   rintro f w ⟨hs,hf⟩
   have ob:=hf.chain
   obtain⟨g,rfl⟩:=ob
   have hsn:∀{w:World}{L:List (Nat×Obj)}{b5:Nat},Step [b] ((b5,blk 115 ((Ent.cells ⟨[],k,List.replicate 32 0⟩).set 0 (str [])))::L) w0 w→Step [b] ((b5,blk 115 (Ent.cells ⟨[],k,List.replicate 32 0⟩))::L) w0 w:=fun h=>h
   cases h2:bytesP bs p1 with
   | error er=>
    rw[h2] at hr
    refine sr<|wm<|WL.enterX (run_call en161 rfl rfl) (text_at h2 _ (h.next (Step.append_comm (L1:=[_,_]) hs)) (by omega)) ?_
    rintro e w ⟨p',rfl,hq2⟩
    refine⟨_,rfl,?_⟩
    exact fin_panic (.err hr.symm (.on (Step.append_comm (L1:=[_,_]) hs) ⟨p',rfl,hq2⟩))
   | ok sp=>
    obtain⟨s,p2⟩:=sp
    rw[h2] at hr
    have hb2:=bytesP_ok h2
    have hsl:=bytesP_len h2
    simp only at hr
    refine sr<|wm<|wE rfl (run_call en161 rfl rfl) (text_at h2 _ (h.next (Step.append_comm (L1:=[_,_]) hs)) (by omega)) ?_
    rintro e w ⟨rfl,hq2⟩
    refine⟨_,rfl,?_⟩
    replace hs:=(hst (L:=[_,_]) hs hq2).append_comm
    refine wF 0 u115 rfl ty9 rfl<|ws1 ty9 rfl rfl (rfl) (hs) (fun w hs=>?_)
    refine wZ ?_
    by_cases hw:wrongE k s a=0
    ·rw[if_pos hw] at hr
     refine sr<|wm<|wF 1 u115 rfl ty3 rfl<|wl ty3 rfl (hs.c0 rfl)<|wF 0 u115 rfl ty9 rfl<|wl ty9 rfl (hs.c0 rfl)<|wm<|wE rfl (run_call en162 rfl rfl) (wrong_spec hw _ (by omega)) ?_
     rintro e w ⟨rfl,hq3⟩
     refine⟨_,rfl,?_⟩
     replace hs:=hs.callE hq3
     refine wE rfl (run_call en127 rfl rfl) (fail_none (bs:=bs) _ (h.next (Step.append_comm (L1:=[_,_]) hs))) ?_
     rintro e w ⟨rfl,hq4⟩
     refine⟨_,rfl,?_⟩
     replace hs:=(hst (L:=[_,_]) hs hq4).append_comm
     refine wZ ?_
     cases h3:bytesP bs p2 with
     | error er=>
      rw[h3] at hr
      refine sr<|wm<|WL.enterX (run_call en140 rfl rfl) (bytes_at h3 _ (h.next (Step.append_comm (L1:=[_,_]) hs)) (by omega)) ?_
      rintro e w ⟨p',rfl,hq5⟩
      refine⟨_,rfl,?_⟩
      exact fin_panic (.err hr.symm (.on (Step.append_comm (L1:=[_,_]) hs) ⟨p',rfl,hq5⟩))
     | ok dp=>
      obtain⟨d,p3⟩:=dp
      rw[h3] at hr
      have hb3:=bytesP_ok h3
      have hdl:=bytesP_len h3
      simp only at hr
      refine sr<|wm<|wE rfl (run_call en140 rfl rfl) (bytes_at h3 _ (h.next (Step.append_comm (L1:=[_,_]) hs)) (by omega)) ?_
      rintro e w ⟨v,Lv,rfl,hv,hq5⟩
      refine⟨_,rfl,?_⟩
      have ob:=hv.form
      obtain⟨va,vc,rfl⟩:=ob
      replace hs:=(hst (L:=[_,_]) hs hq5).append_comm
      refine wA<|wZ ?_
      have hvs:=fun(w:World) (hs:Step [b] Lv w0 w)=>hv.sl (S:=[b]) (L:=[]) (w0:=w0) (w:=w) (by rw[append_nil];exact hs)
      replace hs:Step [b] ([(b5,blk 115 (Ent.cells ⟨s,k,List.replicate 32 0⟩)),(b4,blk 115 (Ent.cells ⟨[],0,List.replicate 32 0⟩))]++(RdB b bv p3::Lv)) w0 w:=hs
      by_cases hbd:badD d
      ·rw[if_pos hbd] at hr
       by_cases hd1:32<d.length
       ·refine cq<|sr<|wm<|wV (run_lenSl u76 rfl)<|wV (run_bT (run_gtr rfl rfl) (by omega))<|wm<|wz<|wz<|wz<|wz<|wz<|wz<|wz<|wz<|wz<|wz<|wz<|wz<|wV (run_pickT rfl)<|wZ<|cT rfl<|cr<|wm ?_
        refine WL.enterX (run_call en127 rfl rfl) (fail_throw (bs:=bs) (er:=51) _ (h.next (Step.append_comm (L1:=[_,_]) hs)) (by decide)) ?_
        rintro e w ⟨p',rfl,hq6⟩
        refine⟨_,rfl,?_⟩
        exact fin_panic (.err hr.symm (.on (Step.append_comm (L1:=[_,_]) hs) ⟨p',rfl,hq6⟩))
       ·have ob:=hbd.resolve_left hd1
        obtain⟨hd2,hla⟩:=ob
        have hi:d.length - 1<d.length:=by omega
        have hz:d[d.length - 1]=0:=by
         rw[getLast?_eq_getElem?,getElem?_eq_getElem hi] at hla
         exact Option.some.inj hla
        have ob:=cell_u8 (i:=d.length - 1) (hvs _ (Step.dropL (L1:=[_,_,_]) hs)) hi
        obtain⟨bk,off,rfl,hcell⟩:=ob
        refine cq<|sr<|wm<|wV (run_lenSl u76 rfl)<|wV (run_bF (run_gtr rfl rfl) (by omega))<|wm<|wy<|wm<|wy<|wV (run_lenSl u76 rfl)<|wy<|wV (run_bT (run_gtr rfl rfl) (by omega))<|wy<|wm<|wy<|wm<|wy<|wm<|wy<|wV (run_lenSl u76 rfl)<|wy<|wV (run_sub (c:=((d.length - 1:Nat):Int)) rfl rfl (by omega) (by omega))<|wy<|wV (run_ixSlN u76 ty5 rfl rfl (by omega)) ?_
        refine wy<|wl ty5 rfl (hcell)<|wy<|wV (run_bT (run_eql rfl rfl) (by rw[hz];rfl))<|wy<|wV (run_pickT rfl)<|wV (run_pickF rfl)<|wZ<|cT rfl<|cr<|wm<|WL.enterX (run_call en127 rfl rfl) (fail_throw (bs:=bs) (er:=51) _ (h.next (Step.append_comm (L1:=[_,_]) hs)) (by decide)) ?_
        rintro e w ⟨p',rfl,hq6⟩
        refine⟨_,rfl,?_⟩
        exact fin_panic (.err hr.symm (.on (Step.append_comm (L1:=[_,_]) hs) ⟨p',rfl,hq6⟩))
      ·rw[if_neg hbd] at hr
       have hd1:¬32<d.length:=fun h=>hbd (.inl h)
       refine CW.sM (fun f w=>Step [b] ([(b5,blk 115 (Ent.cells ⟨s,k,List.replicate 32 0⟩)),(b4,blk 115 (Ent.cells ⟨[],0,List.replicate 32 0⟩))]++(RdB b bv p3::Lv)) w0 w∧Holds f [(4,.pointer (some ⟨b4,0,none⟩)),(5,.pointer (some ⟨b5,0,none⟩)),(6,.slice va d.length vc)]) ?_ ?_
       ·by_cases hd2:d.length=0
        ·refine sr<|wm<|wV (run_lenSl u76 rfl)<|wV (run_bF (run_gtr rfl rfl) (by omega))<|wm<|wy<|wm<|wy<|wV (run_lenSl u76 rfl)<|wy<|wV (run_bF (run_gtr rfl rfl) (by omega))<|wy<|wm<|wz<|wz<|wz<|wz<|wz<|wz<|wz<|wy<|wV (run_pickF rfl)<|wV (run_pickF rfl) ?_
         refine wZ<|cF rfl<|ck ?_
         exact⟨rfl,hs,rfl,rfl,rfl,trivial⟩
        ·have hi:d.length - 1<d.length:=by omega
         have hla:d.getLast?=some d[d.length - 1]:=by rw[getLast?_eq_getElem?,getElem?_eq_getElem hi]
         have hz':¬((d[d.length - 1].toNat:Int)=0):=fun h=>hbd (.inr ⟨by omega,by rw[hla,show d[d.length - 1]=0 from UInt8.toNat_inj.1 (by simpa using h)]⟩)
         have ob:=cell_u8 (i:=d.length - 1) (hvs _ (Step.dropL (L1:=[_,_,_]) hs)) hi
         obtain⟨bk,off,rfl,hcell⟩:=ob
         refine sr<|wm<|wV (run_lenSl u76 rfl)<|wV (run_bF (run_gtr rfl rfl) (by omega))<|wm<|wy<|wm<|wy<|wV (run_lenSl u76 rfl)<|wy<|wV (run_bT (run_gtr rfl rfl) (by omega))<|wy<|wm<|wy<|wm<|wy<|wm<|wy<|wV (run_lenSl u76 rfl)<|wy<|wV (run_sub (c:=((d.length - 1:Nat):Int)) rfl rfl (by omega) (by omega))<|wy<|wV (run_ixSlN u76 ty5 rfl rfl (by omega)) ?_
         refine wy<|wl ty5 rfl (hcell)<|wy<|wV (run_bF (run_eql rfl rfl) (by exact hz'))<|wy<|wV (run_pickT rfl)<|wV (run_pickF rfl)<|wZ<|cF rfl<|ck ?_
         exact⟨rfl,hs,rfl,rfl,rfl,trivial⟩
       clear hs
       rintro f w ⟨hs,hf⟩
       have ob:=hf.chain
       obtain⟨g,rfl⟩:=ob
       refine sr<|wF 2 u115 rfl ty44 rfl<|wV (run_sliceArr0 u44 ty5 rfl)<|wm<|WL.copy u76 ty5 rfl rfl (hs) ((hvs _ (Step.dropL (L1:=[_,_,_]) hs))) (Cells1.u8s d) (by exact Nat.le_of_ble_eq_true rfl) (fun k hk=>by cases hk;rfl) (fun w hs=>⟨fun k hk=>?_,fun h=>by cases h⟩)
       cases hk
       refine wZ ?_
       replace hs:=hs.cast (pad_splice _ s d (by omega))
       have hpl:∀k:Nat,(Ent.cells ⟨s,k,padD d⟩).length=34:=fun k=>by simp[Ent.cells,u8s,padD];omega
       refine sr<|wV (run_loadN ty115 rfl (hpl _) hs.a0)<|WL.storeAll ty115 rfl rfl (hpl _) (Ent.cells1 _) (hs.swap) rfl (fun w hs=>?_)
       refine wZ<|CW.ret ?_
       refine fin_cell1 rfl rfl (run_loadVarN ty115 (hpl _) hs.a0) ?_
       exact .ok hr.symm rfl (Step.dropR (L1:=[_]) (Step.dropL (L1:=[_,_]) hs))
    ·rw[if_neg hw] at hr
     have hw1:=wrongE_51 hw
     refine sr<|wm<|wF 1 u115 rfl ty3 rfl<|wl ty3 rfl (hs.c0 rfl)<|wF 0 u115 rfl ty9 rfl<|wl ty9 rfl (hs.c0 rfl)<|wm<|wE rfl (run_call en162 rfl rfl) (wrong_spec hw1 _ (by omega)) ?_
     rintro e w ⟨rfl,hq3⟩
     refine⟨_,rfl,?_⟩
     replace hs:=hs.callE hq3
     refine WL.enterX (run_call en127 rfl rfl) (fail_throw (bs:=bs) (er:=51) _ (h.next (Step.append_comm (L1:=[_,_]) hs)) (by decide)) ?_
     rintro e w ⟨p',rfl,hq4⟩
     refine⟨_,rfl,?_⟩
     exact fin_panic (.err hr.symm (.on (Step.append_comm (L1:=[_,_]) hs) ⟨p',rfl,hq4⟩))
  ·rw[if_neg hk] at hr
   refine cq<|sr<|wF 1 u115 rfl ty3 rfl<|wl ty3 rfl (hs.c0 rfl)<|wV (run_bT (run_neq rfl rfl) (by show(k:Int)≠1;omega))<|wm<|wy<|wF 1 u115 rfl ty3 rfl<|wy<|wl ty3 rfl (hs.c0 rfl)<|wy<|wV (run_bT (run_neq rfl rfl) (by show(k:Int)≠2;omega))<|wV (run_pickT rfl)<|wZ<|cT rfl<|cr<|wm ?_
   refine WL.enterX (run_call en127 rfl rfl) (fail_throw (bs:=bs) (er:=51) _ (h.next (Step.append_comm (L1:=[_,_]) hs)) (by decide)) ?_
   rintro e w ⟨p',rfl,hq2⟩
   refine⟨_,rfl,?_⟩
   exact fin_panic (.err hr.symm (.on (Step.append_comm (L1:=[_,_]) hs) ⟨p',rfl,hq2⟩))
def entsP (bs:List UInt8):Nat→List UInt8→Nat→Except Int (List Ent×Nat)
 | 0,_,p=>.ok ([],p)
 | n+1,a,p=>
  match entP a bs p with
  | .error e=>.error e
  | .ok (x,q)=>
   match entsP bs n x.name q with
   | .error e=>.error e
   | .ok (l,r)=>.ok (x::l,r)
def decP (bs:List UInt8):Except Int (List Ent×Nat):=
 match numP bs 0 with
 | .error e=>.error e
 | .ok (t,p)=>if t=1 then
   match mostP 1024 bs p with
   | .error e=>.error e
   | .ok (n,q)=>entsP bs n [] q
  else .error 52
def preR (l:List Ent):Except Int (List Ent×Nat)→Except Int (List Ent×Nat)
 | .error e=>.error e
 | .ok (m,q)=>.ok (l++m,q)
theorem preR_nil (r:Except Int (List Ent×Nat)):preR [] r=r:=by
 rcases r with e | ⟨m,q⟩ <;> rfl
theorem lastN_snoc (l:List Ent) (x:Ent):lastN (l++[x])=x.name:=by simp[lastN]
theorem entsP_step{bs:List UInt8}{n:Nat}{a:List UInt8}{p q:Nat}{x:Ent} (l:List Ent) (h:entP a bs p=.ok (x,q)):preR l (entsP bs (n+1) a p)=preR (l++[x]) (entsP bs n x.name q):=by
 conv=>lhs;unfold entsP
 rw[h]
 simp only
 rcases entsP bs n x.name q with e | ⟨m,r⟩
 ·rfl
 ·simp[preR]
theorem entsP_stop{bs:List UInt8}{n:Nat}{a:List UInt8}{p:Nat}{e:Int} (l:List Ent) (h:entP a bs p=.error e):preR l (entsP bs (n+1) a p)=.error e:=by
 conv=>lhs;unfold entsP
 rw[h]
 rfl
theorem entP_ok{bs a:List UInt8}{p q:Nat}{x:Ent} (hl:bs.length≤1048576) (h:entP a bs p=.ok (x,q)):x.ok∧q≤bs.length∧p<q∧x.name.length≤1048576:=by
 unfold entP at h
 split at h
 ·cases h
 ·rename_i k p1 h1
  have hb1:=numP_ok h1
  split at h
  ·rename_i hk
   split at h
   ·cases h
   ·rename_i s p2 h2
    have hb2:=bytesP_ok h2
    have hl2:=bytesP_len h2
    split at h
    ·split at h
     ·cases h
     ·rename_i d p3 h3
      have hb3:=bytesP_ok h3
      split at h
      ·cases h
      ·rename_i hbad
       injection h with h;injection h with hx hq
       subst hx;subst hq
       have hdl:d.length≤32:=by
        rcases Nat.lt_or_ge 32 d.length with h' | h'
        ·exact absurd (.inl h') hbad
        ·exact h'
       refine⟨⟨?_,?_,?_,?_⟩,hb3.1,by omega,?_⟩
       ·simp[padD];omega
       ·show -9223372036854775808≤(k:Int)
        omega
       ·show(k:Int)≤9223372036854775807
        omega
       ·show s.length≤_
        omega
       ·show s.length≤_
        omega
    ·cases h
  ·cases h
def DecR (b bl:Nat) (bv:Value) (w0:World):Except Int (List Ent×Nat)→Ending→World→Prop
 | .ok (l,q),e,w'=>∃v Lv,e=.returned (.tuple #[])∧OwnSl 115 34 v l.length (rows l) Lv∧Oks l∧l.length≤1024∧q≤1048576∧Step [b,bl] (RdB b bv q::(bl,blk 116 [v])::Lv) w0 w'
 | .error er,e,w'=>∃p v Lv,e=.panicked (pch b)∧v.oneCell'=true∧Step [b,bl] (RF b bv p er::(bl,blk 116 [v])::Lv) w0 w'
theorem DecR.err{b bl:Nat}{bv:Value}{w0 w w':World}{er:Int}{r:Except Int (List Ent×Nat)}{p:Nat}{v:Value}{Lv:List (Nat×Obj)}{e:Ending} (hr:r=.error er) (hv:v.oneCell'=true) (hs:Step [b,bl] (RdB b bv p::(bl,blk 116 [v])::Lv) w0 w) (h:Thrown b bv er w e w'):DecR b bl bv w0 r e w':=by
 subst hr
 obtain⟨p',he,h⟩:=h
 exact⟨p',v,Lv,he,hv,Step.call (L1:=[RdB b bv p]) hs h⟩
theorem dec2_at{b bl:Nat}{bs:List UInt8}{bv:Value}{r:Except Int (List Ent×Nat)} (hr:decP bs=r) (w0:World) (hsl:Sl w0 1 bv bs.length (u8s bs)) (hout:Outside bv [b,bl]) (hroom:Room bv) (hlen:bs.length≤1048576)
  (hO:Step [b,bl] (RdB b bv 0::(bl,blk 116 [.slice none 0 0])::[]) w0 w0):CP 125 #[.pointer (some ⟨b,0,none⟩),.pointer (some ⟨bl,0,none⟩)] w0 (DecR b bl bv w0 r):=by
 have hs:=hO
 have hout1:Outside bv [b]:=by
  unfold Outside at hout⊢
  split
  ·intro h;exact hout (by simp at h⊢;exact .inl h)
  ·trivial
 have rd:∀{w:World}{p:Nat}{L:List (Nat×Obj)},Step [b,bl] (RdB b bv p::L) w0 w→RdOk w b bs bv p:=fun h=>⟨Step.own (L1:=[_]) h,hsl.step h hout,hout1,hroom,by omega⟩
 have hst:∀{w w':World}{p:Nat}{L L2:List (Nat×Obj)},Step [b,bl] (RdB b bv p::L) w0 w→Step [b] L2 w w'→Step [b,bl] (L2++L) w0 w':=fun h h2=>Step.call (L1:=[RdB b bv _]) h h2
 unfold decP at hr
 cases h1:numP bs 0 with
 | error er=>
  rw[h1] at hr
  refine calls (n:=24) Tryz.func125 rfl rfl rfl ?_
  refine cq<|sr<|wm<|WL.enterX (run_call en126 rfl rfl) (num_at h1 _ (rd hs) (by omega)) ?_
  rintro e w ⟨p',rfl,hq⟩
  refine⟨_,rfl,?_⟩
  exact fin_panic (.err hr.symm rfl hs ⟨p',rfl,hq⟩)
 | ok tp=>
  obtain⟨t,p1⟩:=tp
  rw[h1] at hr
  have hb1:=numP_ok h1
  simp only at hr
  by_cases ht:t=1
  ·rw[if_pos ht] at hr
   subst ht
   cases h2:mostP 1024 bs p1 with
   | error er=>
    rw[h2] at hr
    refine calls (n:=24) Tryz.func125 rfl rfl rfl ?_
    refine cq<|sr<|wm<|wE rfl (run_call en126 rfl rfl) (num_at h1 _ (rd hs) (by omega)) ?_
    rintro e w ⟨rfl,hq⟩
    refine⟨_,rfl,?_⟩
    replace hs:=hst hs hq
    refine wV (run_bF (run_neq rfl rfl) (by show ¬((1:Nat):Int)≠1;decide))<|wZ<|cF rfl<|ck<|sr<|wA<|wZ<|sr<|wm<|WL.enterX (run_call en128 rfl rfl) (most_at h2 _ (rd hs) hb1.1) ?_
    rintro e w ⟨p',rfl,hq2⟩
    refine⟨_,rfl,?_⟩
    exact fin_panic (.err hr.symm rfl hs ⟨p',rfl,hq2⟩)
   | ok nq=>
    obtain⟨n,q0⟩:=nq
    rw[h2] at hr
    have hb2:=mostP_ok h2
    simp only at hr
    refine calls (n:=24) Tryz.func125 rfl rfl rfl ?_
    refine cq<|sr<|wm<|wE rfl (run_call en126 rfl rfl) (num_at h1 _ (rd hs) (by omega)) ?_
    rintro e w ⟨rfl,hq⟩
    refine⟨_,rfl,?_⟩
    replace hs:=hst hs hq
    refine wV (run_bF (run_neq rfl rfl) (by show ¬((1:Nat):Int)≠1;decide))<|wZ<|cF rfl<|ck<|sr<|wA<|wZ<|sr<|wm<|wE rfl (run_call en128 rfl rfl) (most_at h2 _ (rd hs) hb1.1) ?_
    rintro e w ⟨rfl,hq2⟩
    refine⟨_,rfl,?_⟩
    replace hs:=hst hs hq2
    refine wm<|wZ<|cB<|CW.loop (fun m f w'=>∃i l q v Lv,i≤n∧m=n - i∧q≤bs.length∧l.length=i∧r=preR l (entsP bs (n - i) (lastN l) q)∧OwnSl 115 34 v l.length (rows l) Lv∧Oks l∧(lastN l).length≤1048576∧Step [b,bl] (RdB b bv q::(bl,blk 116 [v])::Lv) w0 w'∧Holds f [(0,.pointer (some ⟨b,0,none⟩)),(1,.pointer (some ⟨bl,0,none⟩)),(3,str (lastN l)),(11,.int .i64 n),(12,.int .i64 i)]) (m:=n) ?_ ?_
    ·exact⟨0,[],q0,_,[],by omega,by omega,hb2.1,rfl,by rw[preR_nil];exact hr.symm,.nil _ _,Oks.nil,by simp[lastN],hs,rfl,rfl,rfl,rfl,rfl,trivial⟩
    ·rintro m f w ⟨i,l,q,v,Lv,hi,rfl,hq0,hll,hr,hv,hok,hla,hs,hf⟩
     have ob:=hf.chain
     obtain⟨g,rfl⟩:=ob
     refine sr<|wV (run_lss rfl rfl)<|wZ<|cq<|CW.condP rfl (fun h=>?_) (fun h=>?_)
     ·have hlt:i<n:=by omega
      have ob:∃j,n - i=j+1:=⟨n - i - 1,by omega⟩
      obtain⟨j,hj⟩:=ob
      rw[hj] at hr
      cases h3:entP (lastN l) bs q with
      | error er=>
       rw[entsP_stop l h3] at hr
       refine ck<|cq<|cB<|sr<|wm<|wm<|WL.enterX (run_call en129 rfl rfl) (entry_at h3 _ (rd hs) hq0 (by omega)) ?_
       rintro e w ⟨p',rfl,hq3⟩
       refine⟨_,rfl,?_⟩
       exact fin_panic (.err hr hv.one hs ⟨p',rfl,hq3⟩)
      | ok xq=>
       obtain⟨x,q'⟩:=xq
       rw[entsP_step l h3] at hr
       have hxo:=entP_ok hlen h3
       have ob:=hv.form
       obtain⟨va,vc,rfl⟩:=ob
       have hxl:=Ent.cells_len hxo.1
       refine ck<|cq<|cB<|sr<|wm<|wm<|wE rfl (run_call en129 rfl rfl) (entry_at h3 _ (rd hs) hq0 (by omega)) ?_
       rintro e w ⟨rfl,hq3⟩
       refine⟨_,rfl,?_⟩
       replace hs:=hst hs hq3
       refine WL.alloc ty115 rfl hs (fun b4 w hs=>?_)
       refine WL.storeAll ty115 rfl rfl (hxl) (x.cells1) (hs) rfl (fun w hs=>?_)
       refine wZ<|CW.any (A:=fun w=>Step [b,bl] [(b4,blk 115 x.cells),RdB b bv q'] w0 w) (C:=fun w=>Step [b,bl] [(b4,blk 115 x.cells),RdB b bv q',(bl,blk 116 [.slice va l.length vc])] w0 w) 6 8 mixedP rfl ?_
       replace hs:=hs.drew
       refine aV 0 rfl (fun w hs=>run_load1 ty116 rfl (hs.tail.tail.c0 rfl))<|aV 1 rfl (fun w hs=>run_loadN ty115 rfl hxl hs.a0)<|AL.valA 4 rfl (by kernel_rfl) rfl (fun w hs=>run_field (o':=0) u115 rfl ty9 rfl rfl rfl) ?_
       refine AL.valA 5 rfl (by kernel_rfl) rfl (fun w hs=>run_load1 ty9 rfl (hs.c0 rfl)) ?_
       refine AL.one 2 (by kernel_rfl) rfl (Step.dropR (L1:=[_,_]) hs) (Step.dropR (L1:=[_,_,_]) hs) ?_
       refine WL.buildSlice (cs:=x.cells) u116 ty115 rfl (by decide) rfl (filled1 hxl rfl) rfl hs (fun b19 w hs=>?_)
       have hsl19:Sl w 34 (.slice (some ⟨b19,0,none⟩) 1 1) 1 x.cells:=.own1 hs (by rw[hxl])
       replace hs:Step [b,bl] ([_,_,_]++(Lv++[_])) w0 w:=hs.rot1
       refine wZ<|⟨rfl,?_⟩
       refine AL.one 3 (by kernel_rfl) rfl (Step.dropR (L1:=[_,_]) hs) (Step.dropR (L1:=[_,_,_]) hs) ?_
       refine WL.append u116 u116 ty115 rfl (by decide) rfl rfl (hv) ((by have:=hs.append_comm;rw[append_assoc] at this;exact this)) (hsl19) (x.cells1) (by omega) rfl (fun v20 Lv20 w hv20 hs=>?_)
       replace hs:=Step.tail (Step.append_comm hs)
       refine wZ<|⟨rfl,?_⟩
       refine AL.one 6 (by kernel_rfl) rfl (Step.dropR (L1:=[_,_]) hs) (Step.dropR (L1:=[_,_,_]) hs) ?_
       refine ws1 ty116 rfl rfl (hv20.one) (hs.rot3) (fun w hs=>?_)
       replace hs:=hs.rot3.rot3
       refine wZ<|⟨rfl,?_⟩
       refine AL.relax (by kernel_rfl) ?_
       refine AL.valA 7 rfl (by kernel_rfl) rfl (fun w hs=>run_assign) ?_
       refine AL.end (by kernel_rfl) (Step.dropR (L1:=[_,_]) hs) (trivial) ?_
       replace hs:=hs.tail
       refine cr<|wV (run_add (c:=((i+1:Nat):Int)) rfl rfl (by omega) (by omega))<|wm<|wZ<|(show _∧_ from⟨rfl,_,?_,i+1,l++[x],q',_,_,by omega,rfl,hxo.2.1,?_,?_,?_,hok.append (Oks.one hxo.1),?_,hs,rfl,rfl,?_,rfl,rfl,trivial⟩)
       ·omega
       ·simp[hll]
       ·rw[hr,lastN_snoc,show n - (i+1)=j by omega]
       ·rw[length_append,rows_append,rows_one]
        exact hv20
       ·rw[lastN_snoc];exact hxo.2.2.2
       ·rw[lastN_snoc];rfl
     ·obtain rfl:i=n:=by omega
      refine CW.exit<|fin_end0 rfl ?_
      have e:r=.ok (l,q):=by
       rw[hr,show i - i=0 by omega]
       simp[entsP,preR]
      rw[e]
      exact⟨v,Lv,rfl,hv,hok,by omega,by omega,hs⟩
  ·rw[if_neg ht] at hr
   refine calls (n:=24) Tryz.func125 rfl rfl rfl ?_
   refine cq<|sr<|wm<|wE rfl (run_call en126 rfl rfl) (num_at h1 _ (rd hs) (by omega)) ?_
   rintro e w ⟨rfl,hq⟩
   refine⟨_,rfl,?_⟩
   replace hs:=hst hs hq
   refine wV (run_bT (run_neq rfl rfl) (by show(t:Int)≠1;omega))<|wZ<|cT rfl<|cr<|wm<|WL.enterX (run_call en127 rfl rfl) (fail_throw (bs:=bs) (er:=52) _ (rd hs) (by decide)) ?_
   rintro e w ⟨p',rfl,hq2⟩
   refine⟨_,rfl,?_⟩
   exact fin_panic (.err hr.symm rfl hs ⟨p',rfl,hq2⟩)
section
variable{P:Program}{f:Slots}{w:World}{d:Option Tmp}{ty:TypeId}{pos:String}{af:Array Edge}{x y:Operand}{I T':TypeId}
theorem run_neqIfaceNil{ms:_}{T:TypeId}{v:Value} (ht:P.underlying I=some (.interface ms)) (hx:ev f x=.iface T v) :
  (execOp (ev f) ⟨d,.binOp .neq I x (.const .nilIface) T',ty,pos,af,none⟩).run P w=.ok (.value (.bool true)) w:=by
 have e:ev f (.const .nilIface)=.nilIface:=rfl
 have h0:∀d,(Op.equalIn (d+1) I (.iface T v) .nilIface).run P w=.ok false w:=fun d=>by simp[Op.equalIn,run_underlying ht]
 have h:(Op.equal I (.iface T v) .nilIface).run P w=.ok false w:=h0 9999
 simp[execOp,hx,e,eqGuard,binOp,h]
theorem run_neqNilNil{ms:_} (ht:P.underlying I=some (.interface ms)) (hx:ev f x=.nilIface) :
  (execOp (ev f) ⟨d,.binOp .neq I x (.const .nilIface) T',ty,pos,af,none⟩).run P w=.ok (.value (.bool false)) w:=by
 have e:ev f (.const .nilIface)=.nilIface:=rfl
 have h0:∀d,(Op.equalIn (d+1) I .nilIface .nilIface).run P w=.ok true w:=fun d=>by simp[Op.equalIn,run_underlying ht]
 have h:(Op.equal I .nilIface .nilIface).run P w=.ok true w:=h0 9999
 simp[execOp,hx,e,eqGuard,binOp,h]
theorem run_neqPtrSame{E:TypeId}{agg:Bool}{n by_:Nat}{zs:List Value}{a:Addr} (ht:P.underlying I=some (.pointer E)) (hE:Ty P E agg n by_ zs) (hn:n≠0) (hx:ev f x=.pointer (some a)) (hy:ev f y=.pointer (some a)) :
  (execOp (ev f) ⟨d,.binOp .neq I x y T',ty,pos,af,none⟩).run P w=.ok (.value (.bool false)) w:=by
 have h0:∀d,(Op.equalIn (d+1) I (.pointer (some a)) (.pointer (some a))).run P w=.ok true w:=fun d=>by simp[Op.equalIn,run_underlying ht,run_sizeOf hE,hn,sameAddr]
 have h:(Op.equal I (.pointer (some a)) (.pointer (some a))).run P w=.ok true w:=h0 9999
 simp[execOp,hx,hy,eqGuard,binOp,h]
theorem run_tA{v r:Value}{T A:TypeId}{ok:Bool} (hx:ev f x=v) (h:(Instr.typeAssert v T A ok).run P w=.ok r w) :
  (execOp (ev f) ⟨d,.typeAssert x T A ok,ty,pos,af,none⟩).run P w=.ok (.value r) w:=by
 simp[execOp,hx,h]
end
theorem tA_nil (w:World):(Instr.typeAssert .nilIface 20 268 true).run Tryz.prog w=.ok (.tuple #[.agg #[.pointer none],.bool false]) w:=by kernel_rfl
def RdL (b5 b9 b4:Nat) (bv:Value) (q:Nat) (ov:Bool) (ft er:Int):List (Nat×Obj):=[(b9,blk 266 [bv,.int .i64 q,.bool ov,.int .i64 ft]),(b5,blk 228 [.pointer (some ⟨b9,0,none⟩)]),(b4,blk 36 [.int .i64 er])]
theorem rd1_ret{b5 b9 b4 q m c:Nat}{a:Option Addr} (w0:World) (hO:Step [b9,b5,b4] (RdL b5 b9 b4 (.slice a m c) q false 0 0) w0 w0) :
  CallsD Tryz.prog 159 #[.pointer (some ⟨b5,0,none⟩),.pointer (some ⟨b4,0,none⟩)] .returning w0 fun e u' w'=>(∃v,e=.returned v)∧settle u'=.returning∧Step [b9,b5,b4] (RdL b5 b9 b4 (.slice a m c) q true 0 (if q<m then 13 else 0)) w0 w':=by
 have hs:=hO
 unfold RdL at hs
 refine callsD_rec (n:=48) Tryz.func159 rfl rfl rfl ?_
 intro c0 cs hc0
 refine CS.seq (CS.of ?_)
 refine cr<|wl ty228 rfl (hs.c1 rfl)<|wn rfl<|wF 2 u266 rfl ty4 rfl<|ws1 ty4 rfl rfl (rfl) (hs) (fun w hs=>?_)
 refine wZ<|CS.seq (CS.recover (v:=.nilIface) (cs':=c0::cs) rfl rfl (.inr ⟨by simp[recoverD,hc0],rfl,rfl⟩) ?_)
 refine CS.of ?_
 refine cq<|sr<|wm<|wV (run_tA rfl (tA_nil _))<|wm<|wx rfl rfl<|wx rfl rfl<|WL.alloc ty268 rfl hs (fun b3 w hs=>?_)
 refine WL.storeAll ty268 rfl rfl (rfl) ((fun v hv=>by simp at hv;subst hv;rfl)) (hs) rfl (fun w hs=>?_)
 refine wA<|wZ<|sr<|wm<|wV (run_neqNilNil u20 rfl)<|wm<|wz<|wz<|wz<|wz<|wz<|wz<|wz<|wz<|wV (run_pickF rfl)<|wZ ?_
 refine cF rfl<|ck<|cB<|sr<|wl ty228 rfl (hs.c2 rfl)<|wn rfl<|wF 3 u266 rfl ty36 rfl<|wl ty36 rfl (hs.c1 rfl)<|wV (run_bF (run_neq rfl rfl) (by decide))<|wA<|wZ ?_
 by_cases hq:q<m
 ·refine cF rfl<|cq<|CW.quiet mixedP (by kernel_rfl) hs ?_
  refine qV (fun w hs=>run_load1 ty228 rfl (hs.c2 rfl))<|qn rfl<|qF 1 u266 rfl ty3 rfl<|qV (fun w hs=>run_load1 ty3 rfl (hs.c1 rfl))<|qV (fun w hs=>run_load1 ty228 rfl (hs.c2 rfl))<|qn rfl<|qF 0 u266 rfl ty76 rfl<|qV (fun w hs=>run_load1 ty76 rfl (hs.c1 rfl))<|qV (fun w hs=>run_lenSl u76 rfl)<|qV (fun w hs=>run_bT (run_lss rfl rfl) (by omega))<|qV (fun w hs=>run_assign)<|QL.nil (fun w hs=>?_)
  refine cT rfl<|cr<|ws1 ty36 rfl rfl (rfl) ((hs.front [_,_,_])) (fun w hs=>?_)
  refine wZ<|finS_end0 (u':=c0.mode) rfl ⟨⟨_,rfl⟩,by rw[hc0];rfl,?_⟩
  rw[if_pos hq]
  exact(hs.swap.tail).rot1
 ·refine cF rfl<|cq<|CW.quiet mixedP (by kernel_rfl) hs ?_
  refine qV (fun w hs=>run_load1 ty228 rfl (hs.c2 rfl))<|qn rfl<|qF 1 u266 rfl ty3 rfl<|qV (fun w hs=>run_load1 ty3 rfl (hs.c1 rfl))<|qV (fun w hs=>run_load1 ty228 rfl (hs.c2 rfl))<|qn rfl<|qF 0 u266 rfl ty76 rfl<|qV (fun w hs=>run_load1 ty76 rfl (hs.c1 rfl))<|qV (fun w hs=>run_lenSl u76 rfl)<|qV (fun w hs=>run_bF (run_lss rfl rfl) (by omega))<|qV (fun w hs=>run_assign)<|QL.nil (fun w hs=>?_)
  refine cF rfl<|ck<|finS_end0 (u':=c0.mode) rfl ⟨⟨_,rfl⟩,by rw[hc0];rfl,?_⟩
  rw[if_neg hq]
  exact hs.tail
theorem rd1_panic{b5 b9 b4 q:Nat}{bv:Value}{er:Int} (he:er≠0) (w0:World) (hO:Step [b9,b5,b4] (RdL b5 b9 b4 bv q true er 0) w0 w0) :
  CallsD Tryz.prog 159 #[.pointer (some ⟨b5,0,none⟩),.pointer (some ⟨b4,0,none⟩)] (.panicking (pch b9)) w0 fun e u' w'=>(∃v,e=.returned v)∧settle u'=.returning∧Step [b9,b5,b4] (RdL b5 b9 b4 bv q true er er) w0 w':=by
 have hs:=hO
 unfold RdL at hs
 refine callsD_rec (n:=48) Tryz.func159 rfl rfl rfl ?_
 intro c0 cs hc0
 refine CS.seq (CS.of ?_)
 refine cr<|wl ty228 rfl (hs.c1 rfl)<|wn rfl<|wF 2 u266 rfl ty4 rfl<|ws1 ty4 rfl rfl (rfl) (hs) (fun w hs=>?_)
 refine wZ<|CS.seq (CS.recover (v:=pv b9) (cs':={ c0 with mode:=.panicking [{ v:=pv b9,recovered:=true }] }::cs) rfl rfl (.inl (by simp[recoverD,hc0,pch])) ?_)
 refine CS.of ?_
 refine cq<|sr<|wm<|wV (run_assertOk u268 rfl rfl)<|wm<|wx rfl rfl<|wx rfl rfl<|WL.alloc ty268 rfl hs (fun b3 w hs=>?_)
 refine WL.storeAll ty268 rfl rfl (rfl) ((fun v hv=>by simp at hv;subst hv;rfl)) (hs) rfl (fun w hs=>?_)
 refine wA<|wZ<|sr<|wm<|wV (run_neqIfaceNil u20 rfl)<|wm<|wy<|wm<|wy<|wV (run_not rfl)<|wy<|wm<|wy<|wF 0 u268 rfl ty228 rfl<|wy<|wl ty228 rfl (hs.c0 rfl)<|wy<|wl ty228 rfl (hs.c2 rfl)<|wy<|wV (run_neqPtrSame u228 ty266 (by decide) rfl rfl)<|wy<|wV (run_pickF rfl)<|wV (run_pickT rfl) ?_
 refine wZ<|cF rfl<|ck<|cB<|sr<|wl ty228 rfl (hs.c2 rfl)<|wn rfl<|wF 3 u266 rfl ty36 rfl<|wl ty36 rfl (hs.c1 rfl)<|wV (run_bT (run_neq rfl rfl) (by exact he))<|wA<|wZ<|cT rfl<|cr<|wl ty228 rfl (hs.c2 rfl)<|wn rfl<|wF 3 u266 rfl ty36 rfl<|wl ty36 rfl (hs.c1 rfl) ?_
 refine ws1 ty36 rfl rfl (rfl) ((hs.front [_,_,_])) (fun w hs=>?_)
 refine wZ ?_
 exact finS_end0 rfl ⟨⟨_,rfl⟩,rfl,(hs.swap.tail).rot1⟩
theorem entP_err{bs a:List UInt8}{p:Nat}{e:Int} (h:entP a bs p=.error e):e≠0:=by
 have hb:∀{p:Nat}{e:Int},bytesP bs p=.error e→e≠0:=fun {p e} h=>by
  unfold bytesP at h
  split at h
  ·rename_i h1;injection h with h;subst h;rcases numP_err h1 with h | h <;> omega
  ·split at h
   ·injection h with h;omega
   ·cases h
 unfold entP at h
 split at h
 ·rename_i h1;injection h with h;subst h;rcases numP_err h1 with h | h <;> omega
 ·split at h
  ·split at h
   ·rename_i h1;injection h with h;subst h;exact hb h1
   ·split at h
    ·split at h
     ·rename_i h1;injection h with h;subst h;exact hb h1
     ·split at h
      ·injection h with h;omega
      ·cases h
    ·injection h with h;omega
  ·injection h with h;omega
theorem entsP_err{bs:List UInt8}:∀{n:Nat}{a:List UInt8}{p:Nat}{e:Int},entsP bs n a p=.error e→e≠0
 | 0,a,p,e,h=>by cases h
 | n+1,a,p,e,h=>by
  unfold entsP at h
  split at h
  ·rename_i h1;injection h with h;subst h;exact entP_err h1
  ·split at h
   ·rename_i h1;injection h with h;subst h;exact entsP_err h1
   ·cases h
theorem decP_err{bs:List UInt8}{e:Int} (h:decP bs=.error e):e≠0:=by
 unfold decP at h
 split at h
 ·rename_i h1;injection h with h;subst h;rcases numP_err h1 with h | h <;> omega
 ·split at h
  ·split at h
   ·rename_i h1
    injection h with h;subst h
    unfold mostP at h1
    split at h1
    ·rename_i h2;injection h1 with h;subst h;rcases numP_err h2 with h | h <;> omega
    ·split at h1
     ·injection h1 with h;omega
     ·cases h1
   ·exact entsP_err h
  ·injection h with h;omega
def readP (bs:List UInt8):Int×List Ent:=match decP bs with
 | .error e=>(e,[])
 | .ok (l,q)=>if q<bs.length then (13,[]) else (0,l)
def ReadR (bl:Nat) (bs:List UInt8) (w0:World) (e:Ending) (w':World):Prop:=∃u Lv G,e=.returned (.int .i64 (readP bs).1)∧Cell1 u∧((readP bs).1=0→OwnSl 115 34 u (readP bs).2.length (rows (readP bs).2) Lv∧Oks (readP bs).2∧(readP bs).2.length≤1024)∧Step [bl] ((bl,blk 116 [u])::(Lv++G)) w0 w'
theorem bld_reader (a:Option Addr) (m c:Nat) (w:World):(Instr.build 266 #[(0,.slice a m c)]).run Tryz.prog w=.ok (.agg #[.slice a m c,.int .i64 0,.bool false,.int .i64 0]) w:=by kernel_rfl
theorem read_at{bl:Nat}{bs:List UInt8}{v:Value} (w0:World) (hv:Sl w0 1 v bs.length (u8s bs)) (hout:u8s bs=[]∨Outside v [bl]) (hlen:bs.length≤1048576) (hO:Step [bl] [(bl,blk 116 [.slice none 0 0])] w0 w0) :
  CP 124 #[v,.func (.func 125) #[] #[.pointer (some ⟨bl,0,none⟩)]] w0 (ReadR bl bs w0):=by
 have hs:=hO
 refine callsDef (n:=14) Tryz.func124 rfl rfl rfl ?_
 refine sr<|WL.alloc ty36 rfl hs (fun b4 w hs=>?_)
 refine wZ<|sr<|wm<|wE rfl (run_call en83 rfl rfl) (clone_spec (s:=bs) _ (hv.stepK hs hout) (by omega)) ?_
 rintro e w ⟨v',Lv',rfl,hv',hq⟩
 refine⟨_,rfl,?_⟩
 have ob:=hv'.form
 obtain⟨va,vc,rfl⟩:=ob
 replace hs:=(hs.call0 hq).append_comm
 refine wV (run_build rfl (bld_reader _ _ _ _))<|WL.box (cs:=[.slice va bs.length vc,.int .i64 0,.bool false,.int .i64 0]) rfl rfl rfl hs (fun b9 w hs=>?_)
 refine WL.alloc ty228 rfl hs (fun b5 w hs=>?_)
 refine ws1 ty228 rfl rfl (rfl) (hs) (fun w hs=>?_)
 refine wZ ?_
 replace hs:=Step.front [_,_] (Step.front [_,_,_] hs)
 have hs4:=hs
 have hown:Step [b9,bl] [RdB b9 (.slice va bs.length vc) 0,(bl,blk 116 [.slice none 0 0])] w w:=Step.own (L1:=[_,_]) hs
 have hcomm:=Step.append_comm (L1:=[_,_,_,_]) hs
 have hsl:=hv'.sl hcomm
 have hvo:Outside (.slice va bs.length vc) [b9,bl]:=hv'.outside fun p hp h=>hcomm.disj p hp (by simp at h⊢;rcases h with h | h <;> simp[h])
 refine sr<|wV (run_makeFuncC rfl)<|WL.defer (run_deferV (cap:=[.pointer (some ⟨b5,0,none⟩),.pointer (some ⟨b4,0,none⟩)]) rfl) ?_
 refine wZ ?_
 have hdec:=fun r hr=>dec2_at (r:=r) hr w hsl hvo (hv'.room (by decide)) hlen hown
 cases hr:decP bs with
 | error er=>
  have hne:=decP_err hr
  have he:readP bs=(er,[]):=by unfold readP;rw[hr]
  refine sr<|wm<|wl ty228 rfl ((hs.tail.tail.c0 rfl))<|WL.enterX (run_callV (cap:=[.pointer (some ⟨bl,0,none⟩)]) en125 rfl rfl) (hdec _ hr) ?_
  rintro e w ⟨p,u,Lu,rfl,hu1,hq2⟩
  refine⟨_,rfl,?_⟩
  replace hs:=Step.two (X:=_::Lu) (Step.call (L1:=[RdB b9 _ 0,(bl,_)]) hs hq2)
  refine finD_panic (cap:=[.pointer (some ⟨b5,0,none⟩),.pointer (some ⟨b4,0,none⟩)]) en159 ((rd1_panic hne _ (Step.own (L1:=[_,_,_]) hs)).mono fun e u' w' h=>?_)
  obtain⟨h1,h2,hq3⟩:=h
  refine⟨h1,h2,fun a ha=>?_⟩
  replace hs:=Step.call (L1:=[_,_,_]) hs hq3
  exact⟨_,res_cell1 ha rfl rfl (run_loadVar1 ty36 (hs.c2 rfl)),u,Lu,Lv',by rw[he],hu1,fun h=>absurd (by rw[he] at h;exact h) hne,Step.dropL (L1:=[_,_,_]) hs⟩
 | ok lq=>
  obtain⟨l,q⟩:=lq
  refine sr<|wm<|wl ty228 rfl ((hs.tail.tail.c0 rfl))<|wE rfl (run_callV (cap:=[.pointer (some ⟨bl,0,none⟩)]) en125 rfl rfl) (hdec _ hr) ?_
  rintro e w ⟨u,Lu,rfl,hu,hlo,hll,hqb,hq2⟩
  refine⟨_,rfl,?_⟩
  refine wZ ?_
  replace hs:=Step.front [_,_] (Step.two (X:=_::Lu) (Step.call (L1:=[RdB b9 _ 0,(bl,_)]) hs hq2))
  refine sr<|ws1 ty36 rfl rfl (rfl) (hs) (fun w hs=>?_)
  refine wZ ?_
  replace hs:=hs.rot3.rot3
  refine CW.ret ?_
  refine finD_ret (cap:=[.pointer (some ⟨b5,0,none⟩),.pointer (some ⟨b4,0,none⟩)]) en159 ((rd1_ret _ (Step.own (L1:=[_,_,_]) hs)).mono fun e u' w' h=>?_)
  obtain⟨h1,h2,hq3⟩:=h
  refine⟨h1,h2,fun a ha=>?_⟩
  replace hs:=Step.call (L1:=[_,_,_]) hs hq3
  refine⟨_,res_cell1 ha rfl rfl (run_loadVar1 ty36 (hs.c2 rfl)),u,Lu,Lv',?_,hu.one,?_,Step.dropL (L1:=[_,_,_]) hs⟩
  ·unfold readP
   rw[hr]
   by_cases hlt:q<bs.length <;> simp[hlt]
  ·intro h0
   have he:readP bs=(0,l):=by
    unfold readP at h0⊢
    rw[hr] at h0⊢
    simp only at h0⊢
    split at h0
    ·cases h0
    ·rename_i hlt;rw[if_neg hlt]
   rw[he]
   exact⟨hu,hlo,hll⟩
def decE (bs:List UInt8):Int:=if 1048576<bs.length then 2 else (readP bs).1
def decL (bs:List UInt8):List Ent:=if decE bs=0 then (readP bs).2 else []
theorem dec1_at{b2 b3:Nat}{er:Int}{u:Value}{md:FrameMode} (w0:World) (hO:Step [b2,b3] [(b2,blk 116 [u]),(b3,blk 36 [.int .i64 er])] w0 w0) :
  CallsD Tryz.prog 123 #[.pointer (some ⟨b3,0,none⟩),.pointer (some ⟨b2,0,none⟩)] md w0 fun e u' w'=>u'=md∧(e=.returned (.tuple #[])∧Step [b2,b3] [(b2,blk 116 [if er=0 then u else .slice none 0 0]),(b3,blk 36 [.int .i64 er])] w0 w'):=by
 have hs:=hO
 refine callsD_plain (n:=4) Tryz.func123 rfl rfl rfl ?_
 by_cases he:er=0
 ·refine sr<|wl ty36 rfl (hs.c1 rfl)<|wV (run_bF (run_neq rfl rfl) (by simpa using he))<|wZ<|cF rfl<|ck<|fin_end0 rfl ?_
  rw[if_pos he]
  exact⟨rfl,hs⟩
 ·refine sr<|wl ty36 rfl (hs.c1 rfl)<|wV (run_bT (run_neq rfl rfl) (by exact he))<|wZ<|cT rfl<|cr<|ws1 ty116 rfl rfl (rfl) (hs) (fun w hs=>?_)
  refine wZ<|fin_end0 rfl ?_
  rw[if_neg he]
  exact⟨rfl,hs⟩
theorem decode_at{bs:List UInt8}{v:Value} (w0:World) (hv:Sl w0 1 v bs.length (u8s bs)) (hlen:bs.length≤9223372036854775807) :
  CP 78 #[v] w0 fun e w'=>∃u Lv,e=.returned (.tuple #[u,.int .i64 (decE bs)])∧OwnSl 115 34 u (decL bs).length (rows (decL bs)) Lv∧Oks (decL bs)∧(decL bs).length≤1024∧Step [] Lv w0 w':=by
 have hs:Step [] [] w0 w0:=Step.refl w0
 obtain⟨a,c,rfl⟩:∃a c,v=.slice a bs.length c:=by
  have ob:=id hv
  obtain⟨_,⟨_,c,rfl,h0⟩ | ⟨b,off,c,rfl,_⟩⟩:=ob
  ·exact⟨_,_,by rw[h0]⟩
  ·exact⟨_,_,rfl⟩
 refine callsDef (n:=13) Tryz.func78 rfl rfl rfl ?_
 refine sr<|WL.alloc ty116 rfl hs (fun b2 w hs=>?_)
 refine WL.alloc ty36 rfl hs (fun b3 w hs=>?_)
 refine wZ ?_
 by_cases hbig:1048576<bs.length
 ·have he:decE bs=2:=if_pos hbig
  have hl:decL bs=[]:=by unfold decL;rw[he];rfl
  refine cq<|sr<|wm<|wV (run_lenSl u76 rfl)<|wV (run_bT (run_gtr rfl rfl) (by omega))<|wZ<|cT rfl<|sr<|ws1 ty116 rfl rfl (rfl) (hs.swap) (fun w hs=>?_)
  refine ws1 ty36 rfl rfl (rfl) (hs.swap) (fun w hs=>?_)
  refine wZ<|CW.ret ?_
  refine finD_ret0 fun a ha=>⟨_,res_cell2 ha rfl rfl rfl (run_loadVar1 ty116 (hs.c1 rfl)) (run_loadVar1 ty36 (hs.c0 rfl)),?_⟩
  rw[he,hl]
  exact⟨_,_,rfl,.nil _ _,Oks.nil,by simp,hs.clear⟩
 ·have he:decE bs=(readP bs).1:=if_neg hbig
  refine cq<|sr<|wm<|wV (run_lenSl u76 rfl)<|wV (run_bF (run_gtr rfl rfl) (by omega))<|wZ<|cF rfl<|ck<|sr<|wV (run_makeFuncC rfl)<|WL.defer (run_deferV (cap:=[.pointer (some ⟨b3,0,none⟩),.pointer (some ⟨b2,0,none⟩)]) rfl) ?_
  refine wZ ?_
  replace hs:=hs.swap
  refine sr<|wm<|wV (run_makeFuncC rfl)<|wE rfl (run_call en124 rfl rfl) (read_at _ (hv.step0 hs.clear) (Outside.newer hv hs (fun k hk=>by simp at hk⊢;exact .inl hk)) (by omega) (Step.own (L1:=[_]) hs)) ?_
  rintro e w ⟨u,Lv,G,rfl,hu1,hok,hq⟩
  refine⟨_,rfl,?_⟩
  replace hs:=Step.call (L1:=[_]) hs hq
  replace hs:=Step.append_comm hs
  refine ws1 ty36 rfl rfl (rfl) (hs) (fun w hs=>?_)
  refine wZ ?_
  replace hs:=hs.swap
  refine cq<|CW.any (A:=fun w=>Step [] [(b2,blk 116 [u]),(b3,blk 36 [.int .i64 (readP bs).1])] w0 w) (C:=fun w=>Step [] [(b2,blk 116 [u]),(b3,blk 36 [.int .i64 (readP bs).1])] w0 w) 1000000 4 mixedP rfl ?_
  replace hs:=hs.drew
  refine aV 0 rfl (fun w hs=>run_load1 ty116 rfl (hs.c0 rfl))<|aV 1 rfl (fun w hs=>run_load1 ty36 rfl (hs.c1 rfl))<|AL.one 2 (by kernel_rfl) rfl (Step.dropR (L1:=[_,_]) hs) (Step.dropR (L1:=[_,_]) hs) ?_
  refine ws1 ty116 rfl rfl (hu1) hs (fun w hs=>?_)
  refine wZ<|⟨rfl,?_⟩
  refine AL.one 3 (by kernel_rfl) rfl (Step.dropR (L1:=[_,_]) hs) (Step.dropR (L1:=[_,_]) hs) ?_
  refine ws1 ty36 rfl rfl (rfl) (hs.swap) (fun w hs=>?_)
  replace hs:=hs.swap
  refine wZ<|⟨rfl,?_⟩
  refine AL.end (by kernel_rfl) (Step.dropR (L1:=[_,_]) hs) (Step.dropR (L1:=[_,_]) hs) ?_
  refine CW.ret ?_
  refine finD_ret (cap:=[.pointer (some ⟨b3,0,none⟩),.pointer (some ⟨b2,0,none⟩)]) en123 ((dec1_at _ (Step.own (L1:=[_,_]) hs)).mono fun e u' w' h=>?_)
  obtain⟨h1,rfl,hq3⟩:=h
  refine⟨⟨_,rfl⟩,by rw[h1];rfl,fun a ha=>?_⟩
  replace hs:=Step.call (L1:=[_,_]) hs hq3
  by_cases h0:(readP bs).1=0
  ·rw[if_pos h0] at hs
   have ob:=hok h0
   obtain⟨ho1,ho2,ho3⟩:=ob
   refine⟨_,res_cell2 ha rfl rfl rfl (run_loadVar1 ty116 (hs.c0 rfl)) (run_loadVar1 ty36 (hs.c1 rfl)),?_⟩
   have hl:decL bs=(readP bs).2:=by unfold decL;rw[he,if_pos h0]
   rw[he,hl]
   exact⟨u,Lv,rfl,ho1,ho2,ho3,Step.dropR (Step.dropL (L1:=[_,_]) hs)⟩
  ·rw[if_neg h0] at hs
   refine⟨_,res_cell2 ha rfl rfl rfl (run_loadVar1 ty116 (hs.c0 rfl)) (run_loadVar1 ty36 (hs.c1 rfl)),?_⟩
   have hl:decL bs=[]:=by unfold decL;rw[he,if_neg h0]
   rw[he,hl]
   exact⟨_,_,rfl,.nil _ _,Oks.nil,by simp,hs.clear⟩
theorem nbF_up{u k:Nat} (hu:u<256 ^ k):∀m,k≤m→nbF u m≤k
 | 0,h=>by unfold nbF;omega
 | m+1,h=>by
  unfold nbF
  by_cases hk:k=m+1
  ·split
   ·exact Nat.le_trans (nbF_le u m) (by omega)
   ·omega
  ·rw[if_pos (Nat.div_eq_of_lt (Nat.lt_of_lt_of_le hu (Nat.pow_le_pow_right (by decide) (by omega))))]
   exact nbF_up hu m (by omega)
theorem nbF_lo{u k:Nat} (hu:256 ^ k≤u):∀m,k<m→k<nbF u m
 | m+1,h=>by
  unfold nbF
  split
  ·rename_i hz
   by_cases hk:k=m
   ·subst hk
    have:=Nat.div_pos hu (Nat.pow_pos (by decide))
    omega
   ·exact nbF_lo hu m (by omega)
  ·omega
theorem beVal_cons (c:UInt8) (l:List UInt8):beVal (c::l)=c.toNat*256 ^ l.length+beVal l:=by
 have gen:∀(l:List UInt8) (a:Nat),l.foldl (fun u c=>u*256+c.toNat) a=a*256 ^ l.length+beVal l:=by
  intro l
  induction l with
  | nil=>intro a;simp[beVal]
  | cons d l ih=>
   intro a
   rw[foldl_cons,ih]
   unfold beVal
   rw[foldl_cons,ih (0*256+d.toNat),length_cons,Nat.pow_succ]
   unfold beVal
   rw[Nat.add_mul]
   generalize List.foldl _ 0 l=z
   generalize 256 ^ l.length=y
   rw[Nat.zero_mul,Nat.zero_add,Nat.mul_assoc,Nat.mul_comm 256 y]
   omega
 unfold beVal
 rw[foldl_cons,gen]
 simp[beVal]
theorem form_first{r:List UInt8} (hr:0<r.length) (hr8:r.length≤8):((formB (beVal r)).length=1+r.length)↔¬(r[0]=0∨beVal r<248):=by
 have hlt:=beVal_lt r
 unfold formB
 split
 ·rename_i h
  constructor
  ·intro h1
   have h1:1=1+r.length:=h1
   omega
  ·intro h1;exact absurd (.inr h) h1
 ·rename_i h
  rw[length_cons,be_len]
  have hup:=nbF_up hlt 8 hr8
  match r,hr with
  | c::l,_=>
   have hc:=beVal_cons c l
   simp only[length_cons,getElem_cons_zero] at *
   by_cases h0:c=0
   ·subst h0
    have hlt2:=beVal_lt l
    have hz:beVal ((0:UInt8)::l)=beVal l:=by rw[hc];simp
    have:=nbF_up (u:=beVal ((0:UInt8)::l)) (by rw[hz];exact hlt2) 8 (by omega)
    constructor
    ·intro h1;omega
    ·intro h1;exact absurd (.inl rfl) h1
   ·have hpos:1≤c.toNat:=by
     rcases Nat.eq_zero_or_pos c.toNat with h1 | h1
     ·exact absurd (UInt8.toNat_inj.1 (by simpa using h1)) h0
     ·exact h1
    have hge:256 ^ l.length≤beVal (c::l):=by
     rw[hc]
     have:=Nat.mul_le_mul_right (256 ^ l.length) hpos
     omega
    have:=nbF_lo hge 8 (by omega)
    constructor
    ·intro _ h1
     rcases h1 with h1 | h1
     ·exact h0 h1
     ·exact h h1
    ·intro _;omega
def RRB (b:Nat) (bv:Value) (p:Nat) (e:Int):Nat×Obj:=(b,blk 186 [bv,.int .i64 p,.int .i64 e])
structure RrOk (w:World) (b:Nat) (bs:List UInt8) (bv:Value) (p:Nat):Prop where
 own:Step [b] [RRB b bv p 0] w w
 sl:Sl w 1 bv bs.length (u8s bs)
 out:bs=[]∨Outside bv [b]
 room:Room bv
 len:bs.length≤4194304
def RrN (b:Nat) (bv:Value) (p:Nat) (w0:World) (k:Nat→Value):Except Int (Nat×Nat)→Ending→World→Prop
 | .ok (u,q),e,w'=>e=.returned (.tuple #[k u,.int .i64 (q - p:Nat)])∧Step [b] [RRB b bv p 0] w0 w'
 | .error er,e,w'=>e=.returned (.tuple #[k 0,.int .i64 0])∧Step [b] [RRB b bv p er] w0 w'
def RrV (b:Nat) (bv:Value) (p:Nat) (w0:World):Except Int (Nat×Nat)→Ending→World→Prop
 | .ok (u,q),e,w'=>e=.returned (.int .i64 u)∧Step [b] [RRB b bv q 0] w0 w'
 | .error er,e,w'=>e=.returned (.int .i64 0)∧Step [b] [RRB b bv p er] w0 w'
def RrT (b:Nat) (bv:Value) (bs:List UInt8) (p k n:Nat) (w0:World) (e:Ending) (w':World):Prop:=
 if bs.length<p+k+n then e=.returned (.slice none 0 0)∧Step [b] [RRB b bv p 11] w0 w'
 else ∃v Lv,e=.returned v∧OwnSl 5 1 v n (u8s ((bs.drop (p+k)).take n)) Lv∧Step [b] (RRB b bv (p+k+n) 0::Lv) w0 w'
def itemV (k n:Int) (v:Value):List Value:=[.int .i64 k,.int .i64 n,v]
def RrA (b:Nat) (bv:Value) (p:Nat) (w0:World):Except Int (Nat×Nat)→Ending→World→Prop
 | .ok (u,q),e,w'=>e=.returned (.agg (itemV 1 u (.slice none 0 0)).toArray)∧Step [b] [RRB b bv q 0] w0 w'
 | .error er,e,w'=>e=.returned (.agg (itemV 1 0 (.slice none 0 0)).toArray)∧Step [b] [RRB b bv p er] w0 w'
def RrB (b:Nat) (bv:Value) (p:Nat) (kd:Int) (w0:World):Except Int (List UInt8×Nat)→Ending→World→Prop
 | .ok (s,q),e,w'=>∃v Lv,e=.returned (.agg (itemV kd 0 v).toArray)∧OwnSl 5 1 v s.length (u8s s) Lv∧Step [b] (RRB b bv q 0::Lv) w0 w'
 | .error er,e,w'=>e=.returned (.agg (itemV kd 0 (.slice none 0 0)).toArray)∧Step [b] [RRB b bv p er] w0 w'
def zE:Ent:=⟨[],0,List.replicate 32 0⟩
def OneR (b:Nat) (bv:Value) (w0:World):Except Int (Ent×Nat)→Ending→World→Prop
 | .ok (x,q),e,w'=>e=.returned (.tuple #[.agg x.cells.toArray,.int .i64 0])∧Step [b] [RRB b bv q 0] w0 w'
 | .error er,e,w'=>∃o,e=.returned (.tuple #[.agg zE.cells.toArray,.int .i64 er])∧Step [b] [(b,o)] w0 w'
theorem bytesP_err{bs:List UInt8}{p:Nat}{e:Int} (h:bytesP bs p=.error e):e=11∨e=12:=by
 unfold bytesP at h
 split at h
 ·rename_i h1;injection h with h;subst h;exact numP_err h1
 ·split at h
  ·injection h with h;exact .inl h.symm
  ·cases h
def DecRes (bs:List UInt8) (w0:World) (e:Ending) (w':World):Prop:=∃u Lv,e=.returned (.tuple #[u,.int .i64 (decE bs)])∧OwnSl 115 34 u (decL bs).length (rows (decL bs)) Lv∧Oks (decL bs)∧(decL bs).length≤1024∧Step [] Lv w0 w'
end Go.Gx
namespace Go.Gx
open Go.Proofs Go.RowKit List
def splitL:List UInt8→List (List UInt8)
 | []=>[[]]
 | c::s=>if c=47 then []::splitL s else match splitL s with
  | []=>[[c]]
  | p::ps=>(c::p)::ps
def partsL (s:List UInt8):List (List UInt8):=if s=[] then [] else splitL s
theorem splitL_ne:∀s,splitL s≠[]
 | []=>by simp[splitL]
 | c::s=>by
  rw[splitL]
  split
  ·simp
  ·split <;> simp
theorem splitL_none:∀{s:List UInt8},47∉s→splitL s=[s]
 | [],_=>rfl
 | c::s,h=>by
  simp only[mem_cons,not_or] at h
  rw[splitL,if_neg (fun e=>h.1 e.symm),splitL_none h.2]
theorem splitL_hit{b:List UInt8}:∀{a:List UInt8},47∉a→splitL (a++47::b)=a::splitL b
 | [],_=>by simp[splitL]
 | c::a,h=>by
  simp only[mem_cons,not_or] at h
  rw[cons_append,splitL,if_neg (fun e=>h.1 e.symm),splitL_hit h.2]
theorem refParts_spec{s:List UInt8} (w0:World) (hs1:s.length<4294967281):CP 154 #[str s] w0 fun e w'=>∃u Lu,e=.returned u∧OwnSl 9 1 u (partsL s).length (strs (partsL s)) Lu∧Step [] Lu w0 w':=by
 have hs:Step [] [] w0 w0:=Step.refl w0
 by_cases h0:s=[]
 ·have e:partsL s=[]:=if_pos h0
  rw[e]
  refine calls (n:=34) Tryz.func154 rfl rfl rfl ?_
  refine sr<|wA<|wZ<|cq<|sr<|wm<|wV (run_bT (run_strEq rfl rfl) (by exact h0))<|wZ<|cT rfl<|sr<|wA<|wZ ?_
  refine CW.ret ?_
  refine fin_ret1 rfl ?_
  exact⟨_,_,rfl,.nil _ _,hs⟩
 ·have e:partsL s=splitL s:=if_neg h0
  rw[e]
  refine calls (n:=34) Tryz.func154 rfl rfl rfl ?_
  refine sr<|wA<|wZ<|cq<|sr<|wm<|wV (run_bF (run_strEq rfl rfl) (by exact h0))<|wZ<|cF rfl<|ck<|sr<|wA<|wZ<|sr<|wA<|wZ<|cq<|sr<|wA<|wZ<|cB ?_
  refine CW.loop (fun m f w'=>∃i fr P u Lu,i≤s.length+1∧m=s.length+1 - i∧P.length≤i∧(i≤s.length→fr≤i∧splitL s=P++splitL (s.drop fr)∧47∉(s.drop fr).take (i - fr))∧(i=s.length+1→splitL s=P)∧OwnSl 9 1 u P.length (strs P) Lu∧Step [] Lu w0 w'∧Holds f [(0,str s),(3,u),(4,.int .i64 fr),(5,.int .i64 i)]) (m:=s.length+1) ?_ ?_
  ·exact⟨0,0,[],_,[],by omega,by omega,by simp,fun _=>⟨by omega,rfl,by simp⟩,fun h=>by omega,.nil _ _,hs,rfl,rfl,rfl,rfl,trivial⟩
  ·clear hs
   rintro m f w ⟨i,fr,P,u,Lu,hi,rfl,hPl,hin,hout,hu,hs,hf⟩
   have ob:=hf.chain
   obtain⟨g,rfl⟩:=ob
   by_cases hle:i≤s.length
   ·have ob:=hin hle
    obtain⟨hfr,hsp,hno⟩:=ob
    have hdt:(s.drop fr).take (i - fr)=(s.take i).drop fr:=by rw[drop_take]
    by_cases hend:i=s.length
    ·have hlast:splitL s=P++[(s.take i).drop fr]:=by
      rw[hsp,splitL_none (by rw[hdt,hend,take_length] at hno;exact hno),hend,take_length]
     refine cq<|sr<|wm<|wm<|wV (run_lenStr u9 rfl)<|wV (run_bT (run_leq rfl rfl) (by omega))<|wZ<|cT rfl<|ck<|cq<|cB<|sr<|wm<|wm<|wV (run_lenStr u9 rfl)<|wV (run_bT (run_eql rfl rfl) (by omega))<|wm<|wz<|wz<|wz<|wz<|wV (run_pickT rfl)<|wZ ?_
     refine cT rfl<|sr<|wm<|wm<|wm<|wm<|wV (run_sliceStr u9 rfl rfl rfl (by omega) (by omega))<|WL.buildSlice (cs:=[str ((s.take i).drop fr)]) u256 ty9 rfl (by decide) rfl (filled_s _ _ rfl) rfl hs (fun b29 w hs=>?_)
     have hsl:Sl w 1 (.slice (some ⟨b29,0,none⟩) 1 1) 1 [str ((s.take i).drop fr)]:=.own1 hs rfl
     refine WL.append u256 u256 ty9 rfl (by decide) rfl rfl (hu) ((Step.append_comm (L1:=[_]) hs)) (hsl) ((fun v hv=>by rw[mem_singleton.1 hv];rfl)) (by omega) rfl (fun v30 Lv30 w hv30 hs=>?_)
     refine wA<|wZ<|cr<|wm<|wV (run_add (c:=((i+1:Nat):Int)) rfl rfl (by omega) (by omega))<|wA<|wZ<|cr<|wm<|wV (run_add (c:=((i+1:Nat):Int)) rfl rfl (by omega) (by omega))<|wA<|wZ ?_
     have eP:strs P++[str ((s.take i).drop fr)]=strs (P++[(s.take i).drop fr]):=by simp[strs]
     rw[eP] at hv30
     refine(show _∧_ from⟨rfl,_,?_,i+1,i+1,P++[(s.take i).drop fr],_,_,by omega,rfl,by simp;omega,fun h=>by omega,fun _=>hlast,?_,Step.dropR hs,rfl,rfl,rfl,rfl,trivial⟩)
     ·omega
     ·rw[length_append]
      exact hv30
    ·have hlt:i<s.length:=by omega
     have hc:s[i]?=some s[i]:=getElem?_eq_getElem hlt
     have hdi:s.drop fr=(s.take i).drop fr++s[i]::s.drop (i+1):=by
      rw[←hdt,←drop_eq_getElem_cons hlt]
      have:s.drop i=(s.drop fr).drop (i - fr):=by rw[drop_drop];congr 1;omega
      rw[this,take_append_drop]
     by_cases hsl:s[i]=47
     ·have hcut:splitL s=P++[(s.take i).drop fr]++splitL (s.drop (i+1)):=by
       rw[hdt] at hno
       rw[hsp,hdi,hsl,splitL_hit hno,append_assoc]
       rfl
      refine cq<|sr<|wm<|wm<|wV (run_lenStr u9 rfl)<|wV (run_bT (run_leq rfl rfl) (by omega))<|wZ<|cT rfl<|ck<|cq<|cB<|sr<|wm<|wm<|wV (run_lenStr u9 rfl)<|wV (run_bF (run_eql rfl rfl) (by omega))<|wm<|wy<|wm<|wy<|wm<|wy<|wV (run_strIdx u9 rfl rfl (hc))<|wy<|wV (run_bT (run_eql rfl rfl) (by rw[hsl];rfl))<|wV (run_pickF rfl)<|wZ ?_
      refine cT rfl<|sr<|wm<|wm<|wm<|wm<|wV (run_sliceStr u9 rfl rfl rfl (by omega) (by omega))<|WL.buildSlice (cs:=[str ((s.take i).drop fr)]) u256 ty9 rfl (by decide) rfl (filled_s _ _ rfl) rfl hs (fun b29 w hs=>?_)
      have hsl:Sl w 1 (.slice (some ⟨b29,0,none⟩) 1 1) 1 [str ((s.take i).drop fr)]:=.own1 hs rfl
      refine WL.append u256 u256 ty9 rfl (by decide) rfl rfl (hu) ((Step.append_comm (L1:=[_]) hs)) (hsl) ((fun v hv=>by rw[mem_singleton.1 hv];rfl)) (by omega) rfl (fun v30 Lv30 w hv30 hs=>?_)
      refine wA<|wZ<|cr<|wm<|wV (run_add (c:=((i+1:Nat):Int)) rfl rfl (by omega) (by omega))<|wA<|wZ<|cr<|wm<|wV (run_add (c:=((i+1:Nat):Int)) rfl rfl (by omega) (by omega))<|wA<|wZ ?_
      have eP:strs P++[str ((s.take i).drop fr)]=strs (P++[(s.take i).drop fr]):=by simp[strs]
      rw[eP] at hv30
      refine(show _∧_ from⟨rfl,_,?_,i+1,i+1,P++[(s.take i).drop fr],_,_,by omega,rfl,by simp;omega,fun h=>⟨Nat.le_refl _,hcut,by simp⟩,fun h=>by omega,?_,Step.dropR hs,rfl,rfl,rfl,rfl,trivial⟩)
      ·omega
      ·rw[length_append]
       exact hv30
     ·have hnz:¬((s[i].toNat:Int)=47):=fun h=>hsl (UInt8.toNat_inj.1 (by simpa using(show s[i].toNat=47 by omega)))
      refine cq<|sr<|wm<|wm<|wV (run_lenStr u9 rfl)<|wV (run_bT (run_leq rfl rfl) (by omega))<|wZ<|cT rfl<|ck<|cq<|cB<|sr<|wm<|wm<|wV (run_lenStr u9 rfl)<|wV (run_bF (run_eql rfl rfl) (by omega))<|wm<|wy<|wm<|wy<|wm<|wy<|wV (run_strIdx u9 rfl rfl (hc))<|wy<|wV (run_bF (run_eql rfl rfl) (by exact hnz))<|wV (run_pickF rfl)<|wZ ?_
      refine cF rfl<|ck<|cr<|wm<|wV (run_add (c:=((i+1:Nat):Int)) rfl rfl (by omega) (by omega))<|wA<|wZ<|(show _∧_ from⟨rfl,_,?_,i+1,fr,P,u,Lu,by omega,rfl,by omega,fun h=>⟨by omega,hsp,?_⟩,fun h=>by omega,hu,hs,rfl,rfl,rfl,rfl,trivial⟩)
      ·omega
      ·rw[show i+1 - fr=(i - fr)+1 by omega,take_succ_eq_append_getElem (by rw[length_drop];omega),mem_append]
       rintro(h | h)
       ·exact hno h
       ·rw[mem_singleton,getElem_drop] at h
        apply hsl
        rw[h]
        congr 1
        omega
   ·obtain rfl:i=s.length+1:=by omega
    refine cq<|sr<|wm<|wm<|wV (run_lenStr u9 rfl)<|wV (run_bF (run_leq rfl rfl) (by omega))<|wZ<|cF rfl<|CW.exit<|sr<|wm<|wA<|wZ ?_
    refine CW.ret ?_
    refine fin_ret1 rfl ?_
    rw[hout rfl]
    exact⟨u,Lu,rfl,hu,hs⟩
section
variable{P:Program}{f:Slots}{w:World}{d:Option Tmp}{ty:TypeId}{pos:String}{af:Array Edge}{x y z:Operand}{T T':TypeId}{s t:List UInt8}
theorem run_strAdd (hx:ev f x=str s) (hy:ev f y=str t) (hl:s.length+t.length≤9223372036854775807):(execOp (ev f) ⟨d,.binOp .add T x y T',ty,pos,af,none⟩).run P w=.ok (.value (str (s++t))) w:=by
 have h:¬(9223372036854775807<(s.length:Int)+(t.length:Int)):=by omega
 have e:ByteArray.mk ⟨s⟩++ByteArray.mk ⟨t⟩=⟨⟨s++t⟩⟩:=by
  apply ByteArray.ext
  simp
 simp[execOp,hx,hy,str,go_sem,binOp,Op.stringOp,h,e]
end
def joinL (l:List (List UInt8)):List UInt8:=[47].intercalate l
theorem join_len:∀l:List (List UInt8),(joinL l).length≤(l.map fun x=>x.length+1).sum
 | []=>by simp[joinL,intercalate]
 | [x]=>by simp[joinL,intercalate]
 | x::y::l=>by
  have ih:=join_len (y::l)
  have e:joinL (x::y::l)=x++47::joinL (y::l):=by simp[joinL,intercalate,intersperse]
  rw[e]
  simp only[length_append,length_cons,map_cons,sum_cons] at *
  omega
theorem splitL_len:∀s,(splitL s).length≤s.length+1
 | []=>by simp[splitL]
 | c::s=>by
  have ih:=splitL_len s
  rw[splitL]
  split
  ·simp;omega
  ·split
   ·simp
   ·rename_i p ps h
    rw[h] at ih
    simp at ih⊢
    omega
theorem partsL_len (s:List UInt8):(partsL s).length≤s.length+1:=by
 unfold partsL
 split
 ·simp
 ·exact splitL_len s
def Named (row:List (List UInt8)):Prop:=∀p∈row,isName p=true
theorem isName_le{s:List UInt8} (h:isName s=true):s.length≤64:=by
 simp only[isName,Bool.and_eq_true,decide_eq_true_eq] at h
 exact h.1.2.1
theorem named_join:∀{row:List (List UInt8)},Named row→(row.map fun x=>x.length+1).sum≤65*row.length
 | [],_=>by simp
 | x::row,h=>by
  have h1:=isName_le (h x (by simp))
  have h2:=named_join (row:=row) (fun p hp=>h p (by simp[hp]))
  simp only[map_cons,sum_cons,length_cons]
  omega
theorem splitL_le:∀(s p:List UInt8),p∈splitL s→p.length≤s.length
 | [],p,h=>by
  simp[splitL] at h
  simp[h]
 | c::s,p,h=>by
  have ih:=splitL_le s
  rw[splitL] at h
  split at h
  ·rcases mem_cons.1 h with rfl | h
   ·simp
   ·have:=ih p h;simp;omega
  ·split at h
   ·rcases mem_cons.1 h with rfl | h
    ·simp
    ·cases h
   ·rename_i q qs hq
    rw[hq] at ih
    rcases mem_cons.1 h with rfl | h
    ·have:=ih q (by simp);simp;omega
    ·have:=ih p (by simp[h]);simp;omega
theorem partsL_le{s p:List UInt8} (h:p∈partsL s):p.length≤s.length:=by
 unfold partsL at h
 split at h
 ·cases h
 ·exact splitL_le s p h
theorem joinL_snoc (l:List (List UInt8)) (p:List UInt8):joinL (l++[p])=(if 0<l.length then joinL l++[47] else joinL l)++p:=by
 induction l with
 | nil=>simp[joinL,intercalate]
 | cons x l ih=>
  rw[if_pos (by simp)]
  cases l with
  | nil=>simp[joinL,intercalate]
  | cons y l=>
   rw[if_pos (by simp)] at ih
   have e1:joinL (x::y::l)=x++47::joinL (y::l):=by simp[joinL,intercalate,intersperse]
   have e2:joinL (x::y::l++[p])=x++47::joinL (y::l++[p]):=by simp[joinL,intercalate,intersperse]
   rw[e2,ih,e1]
   simp
theorem joinL_take{l:List (List UInt8)}{i:Nat}{p:List UInt8} (h:l[i]?=some p):joinL (l.take (i+1))=(if 0<i then joinL (l.take i)++[47] else joinL (l.take i))++p:=by
 have hi:=(List.getElem?_eq_some_iff.1 h).1
 rw[take_add_one,h]
 show joinL (l.take i++[p])=_
 rw[joinL_snoc,length_take,Nat.min_eq_left (by omega)]
theorem joinTake_len{l:List (List UInt8)} (i:Nat):(joinL (l.take i)).length≤(l.map fun x=>x.length+1).sum:=by
 have h1:=join_len (l.take i)
 have h2:((l.take i).map fun x=>x.length+1).sum≤(l.map fun x=>x.length+1).sum:=by
  conv=>rhs;rw[←take_append_drop i l]
  rw[map_append,sum_append]
  omega
 omega
set_option maxHeartbeats 2000000 in
theorem refPath_spec{u:Value}{ps:List (List UInt8)}{S:List Nat}{Lp:List (Nat×Obj)} (w0:World) (hu:OwnSl 9 1 u ps.length (strs ps) Lp) (hs:Step S Lp w0 w0) (hbd:(ps.map fun x=>x.length+1).sum≤9000000):CP 184 #[u] w0 (Ret0 (str (joinL ps)) w0):=by
 have hs0:Step [] [] w0 w0:=Step.refl w0
 have hform:=hu.form
 obtain⟨a,c,hq2⟩:=hform
 subst hq2
 have hpl:ps.length≤(ps.map fun x=>x.length+1).sum:=by
  clear hbd hu hs
  induction ps with
  | nil=>simp
  | cons x ps ih=>simp;omega
 have hbase:ps=[]∨∃bp,a=some ⟨bp,0,none⟩∧∀i p,ps[i]?=some p→w0.cell? ⟨bp,0+i*1,none⟩=some (str p):=by
  by_cases h0:ps=[]
  ·exact .inl h0
  ·right
   have ob:=hu.some1 (length_pos_iff.2 h0)
   obtain⟨bp,cp,more,hq1,hqL,hcp⟩:=ob
   cases hq1
   subst hqL
   refine⟨bp,rfl,fun i p hpi=>?_⟩
   have hlt:=(List.getElem?_eq_some_iff.1 hpi).1
   rw[cell_blk hs.hd,Nat.zero_add,Nat.mul_one,getElem?_append_left (by rw[strs_len];exact hlt)]
   simp[strs,hpi]
 have hcl:ps.length≤c:=by
  rcases hbase with h | ⟨bp,rfl,_⟩
  ·rw[h];simp
  ·by_cases h0:ps=[]
   ·rw[h0];simp
   ·have ob:=hu.some1 (length_pos_iff.2 h0)
    obtain⟨bp,cp,more,hq1,hqL,hcp⟩:=ob
    cases hq1
    rw[length_append,strs_len] at hcp
    omega
 refine calls (n:=22) Tryz.func184 rfl rfl rfl ?_
 refine sr<|wA<|wZ<|sr<|wA<|wZ<|cq<|sr<|wA<|wZ<|cB ?_
 refine CW.loop (fun m f w'=>∃i,i≤ps.length∧m=ps.length - i∧w'=w0∧Holds f [(0,.slice a ps.length c),(3,str (joinL (ps.take i))),(4,.int .i64 i)]) (m:=ps.length) ?_ ?_
 ·exact⟨0,by omega,by omega,rfl,rfl,rfl,rfl,trivial⟩
 ·rintro m f w ⟨i,hi,rfl,rfl,hf⟩
  have hs:Step [] [] w w:=Step.refl w
  have ob:=hf.chain
  obtain⟨g,rfl⟩:=ob
  by_cases hlt:i<ps.length
  ·rcases hbase with h | ⟨bp,rfl,hcells⟩
   ·rw[h] at hlt;cases hlt
   have ob:∃p,ps[i]?=some p:=⟨_,getElem?_eq_getElem hlt⟩
   obtain⟨p,hpi⟩:=ob
   have hcell:=hcells i p hpi
   have hjt:=joinL_take hpi
   have hl1:=joinTake_len (l:=ps) i
   have hl2:=joinTake_len (l:=ps) (i+1)
   refine cq<|sr<|wm<|wm<|wV (run_lenSl u256 rfl)<|wV (run_bT (run_lss rfl rfl) (by omega))<|wZ ?_
   by_cases h0:0<i
   ·rw[if_pos h0] at hjt
    have hl3:=congrArg List.length hjt
    rw[length_append,length_append] at hl3
    simp only[length_cons,length_nil] at hl3
    refine cT rfl<|ck<|cq<|cB<|cq<|sr<|wm<|wV (run_bT (run_gtr rfl rfl) (by omega))<|wZ<|cT rfl<|cr<|wm<|wV (run_strAdd rfl rfl ((by simp only[length_cons,length_nil];omega)))<|wA<|wZ<|cr<|wm<|wm<|wm<|wV (run_ixSlN u256 ty9 rfl rfl (by omega))<|wl ty9 rfl (hcell)<|wV (run_strAdd rfl rfl ((by simp only[length_append,length_cons,length_nil];omega)))<|wA<|wZ<|cr<|wm<|wV (run_add (c:=((i+1:Nat):Int)) rfl rfl (by omega) (by omega))<|wA<|wZ ?_
    rw[hjt.symm]
    refine(show _∧_ from⟨rfl,_,?_,i+1,by omega,rfl,rfl,rfl,rfl,rfl,trivial⟩)
    omega
   ·rw[if_neg h0] at hjt
    have hl3:=congrArg List.length hjt
    rw[length_append] at hl3
    refine cT rfl<|ck<|cq<|cB<|cq<|sr<|wm<|wV (run_bF (run_gtr rfl rfl) (by omega))<|wZ<|cF rfl<|ck<|cr<|wm<|wm<|wm<|wV (run_ixSlN u256 ty9 rfl rfl (by omega))<|wl ty9 rfl (hcell)<|wV (run_strAdd rfl rfl ((by omega)))<|wA<|wZ<|cr<|wm<|wV (run_add (c:=((i+1:Nat):Int)) rfl rfl (by omega) (by omega))<|wA<|wZ ?_
    refine(show _∧_ from⟨rfl,_,?_,i+1,by omega,rfl,rfl,rfl,by rw[hjt];rfl,rfl,trivial⟩)
    omega
  ·have hii:i=ps.length:=by omega
   refine cq<|sr<|wm<|wm<|wV (run_lenSl u256 rfl)<|wV (run_bF (run_lss rfl rfl) (by omega))<|wZ<|cF rfl<|CW.exit<|sr<|wm<|wA<|wZ ?_
   refine CW.ret ?_
   refine fin_ret1 rfl ?_
   rw[hii,take_length]
   exact⟨rfl,hs⟩
def isCleanL (s:List UInt8):Bool:=(partsL s).all isName && decide ((partsL s).length≤32)
theorem refIsClean_spec{s:List UInt8} (w0:World) (hs1:s.length<4294967281):CP 149 #[str s] w0 (Ret0 (.bool (isCleanL s)) w0):=by
 have hs:Step [] [] w0 w0:=Step.refl w0
 have hpl:=partsL_len s
 have hple:∀p∈partsL s,p.length≤s.length:=fun p h=>partsL_le h
 refine calls (n:=22) Tryz.func149 rfl rfl rfl ?_
 refine sr<|wA<|wZ<|sr<|wm<|wE rfl (run_call en154 rfl rfl) (refParts_spec _ hs1) ?_
 rintro e w ⟨u,Lp,rfl,hu,hq⟩
 refine⟨_,rfl,?_⟩
 have hs:=hq
 have hform:=hu.form
 obtain⟨a,c,hq2⟩:=hform
 subst hq2
 refine wA<|wZ ?_
 have ob:∃ps,partsL s=ps:=⟨_,rfl⟩
 obtain⟨ps,hps⟩:=ob
 have hic:isCleanL s=(ps.all isName && decide (ps.length≤32)):=by rw[isCleanL,hps]
 rw[hps] at hpl hu hple
 rw[hic]
 refine cq<|sr<|wA<|wZ<|cB<|CW.loop (fun m f w'=>∃i,i≤ps.length∧m=ps.length - i∧(ps.all isName=(ps.drop i).all isName)∧Step [] Lp w0 w'∧Holds f [(3,.slice a ps.length c),(4,.int .i64 i)]) (m:=ps.length) ?_ ?_
 ·exact⟨0,by omega,by omega,rfl,hs,by rw[←hps];rfl,rfl,trivial⟩
 ·clear hs hq
  rintro m f w ⟨i,hi,rfl,hall,hs,hf⟩
  have ob:=hf.chain
  obtain⟨g,rfl⟩:=ob
  by_cases hlt:i<ps.length
  ·have ob:∃p,ps[i]=p:=⟨_,rfl⟩
   obtain⟨p,hp⟩:=ob
   rw[drop_eq_getElem_cons hlt,hp,all_cons] at hall
   have hpi:ps[i]?=some p:=by rw[getElem?_eq_getElem hlt,hp]
   have hpl1:=hple p (mem_of_getElem? hpi)
   have hsm:=hu.some1 (by omega)
   obtain⟨bp,cp,more,hq1,hqL,hcp⟩:=hsm
   cases hq1
   subst hqL
   have hcl:ps.length≤c:=by
    rw[length_append,strs_len] at hcp
    omega
   have hcell:w.cell? ⟨bp,0+i*1,none⟩=some (str p):=by
    rw[cell_blk hs.hd,Nat.zero_add,Nat.mul_one,getElem?_append_left (by rw[strs_len];exact hlt)]
    simp[strs,hpi]
   refine cq<|sr<|wm<|wm<|wV (run_lenSl u256 rfl)<|wV (run_bT (run_lss rfl rfl) (by omega))<|wZ ?_
   by_cases h4:isName p=false
   ·rw[h4,Bool.false_and] at hall
    refine cT rfl<|ck<|cq<|cB<|sr<|wm<|wm<|wV (run_ixSlN u256 ty9 rfl rfl (by omega))<|wl ty9 rfl (hcell)<|wE rfl (run_call en183 rfl rfl) (refIsName_spec h4 _ (by omega)) ?_
    rintro e w ⟨rfl,hq⟩
    refine⟨_,rfl,?_⟩
    replace hs:=hs.callE hq
    refine wV (run_not rfl)<|wZ<|cT rfl<|sr<|wA<|wZ<|CW.ret ?_
    refine fin_ret1 rfl ?_
    rw[hall]
    exact⟨rfl,Step.dropR (L1:=[]) hs⟩
   ·have h5:isName p=true:=by simpa using h4
    rw[h5,Bool.true_and] at hall
    refine cT rfl<|ck<|cq<|cB<|sr<|wm<|wm<|wV (run_ixSlN u256 ty9 rfl rfl (by omega))<|wl ty9 rfl (hcell)<|wE rfl (run_call en183 rfl rfl) (refIsName_spec h5 _ (by omega)) ?_
    rintro e w ⟨rfl,hq⟩
    refine⟨_,rfl,?_⟩
    replace hs:=hs.callE hq
    refine wV (run_not rfl)<|wZ<|cF rfl<|ck<|cr<|wm<|wV (run_add (c:=((i+1:Nat):Int)) rfl rfl (by omega) (by omega))<|wA<|wZ<|(show _∧_ from⟨rfl,_,?_,i+1,by omega,rfl,hall,hs,rfl,rfl,trivial⟩)
    omega
  ·have hii:i=ps.length:=by omega
   rw[hii,drop_length,all_nil] at hall
   rw[hall,Bool.true_and]
   by_cases h6:ps.length≤32
   ·rw[decide_eq_true h6]
    refine cq<|sr<|wm<|wm<|wV (run_lenSl u256 rfl)<|wV (run_bF (run_lss rfl rfl) (by omega))<|wZ<|cF rfl<|CW.exit<|sr<|wm<|wV (run_lenSl u256 rfl)<|wV (run_bT (run_leq rfl rfl) (by omega))<|wA<|wZ ?_
    refine CW.ret ?_
    refine fin_ret1 rfl ?_
    exact⟨rfl,Step.dropR (L1:=[]) hs⟩
   ·rw[decide_eq_false h6]
    refine cq<|sr<|wm<|wm<|wV (run_lenSl u256 rfl)<|wV (run_bF (run_lss rfl rfl) (by omega))<|wZ<|cF rfl<|CW.exit<|sr<|wm<|wV (run_lenSl u256 rfl)<|wV (run_bF (run_leq rfl rfl) (by omega))<|wA<|wZ ?_
    refine CW.ret ?_
    refine fin_ret1 rfl ?_
    exact⟨rfl,Step.dropR (L1:=[]) hs⟩
section
def cmpL (a b:List UInt8):Int:=if Op.bytesLess a b=true then -1 else if a=b then 0 else 1
def cmpF:List (List UInt8)→List (List UInt8)→Int
 | [],[]=>0
 | [],_::_=>-1
 | _::_,[]=>1
 | a::x,b::y=>if cmpL a b≠0 then cmpL a b else cmpF x y
theorem cellsOf{u:Value}{ps:List (List UInt8)}{Lp:List (Nat×Obj)}{S:List Nat}{w0 w:World} (hu:OwnSl 9 1 u ps.length (strs ps) Lp) (hs:Step S Lp w0 w):∃a c,u=.slice a ps.length c∧ps.length≤c∧(ps=[]∨∃bp,a=some ⟨bp,0,none⟩∧∀i p,ps[i]?=some p→w.cell? ⟨bp,0+i*1,none⟩=some (str p)):=by
 have ob:=hu.form
 obtain⟨a,c,rfl⟩:=ob
 by_cases h0:ps=[]
 ·exact⟨a,c,rfl,by rw[h0];simp,.inl h0⟩
 ·have ob:=hu.some1 (length_pos_iff.2 h0)
  obtain⟨bp,cp,more,hq1,hqL,hcp⟩:=ob
  cases hq1
  subst hqL
  refine⟨_,_,rfl,?_,.inr ⟨bp,rfl,fun i p hpi=>?_⟩⟩
  ·rw[length_append,strs_len] at hcp
   omega
  ·have hlt:=(List.getElem?_eq_some_iff.1 hpi).1
   rw[cell_blk hs.hd,Nat.zero_add,Nat.mul_one,getElem?_append_left (by rw[strs_len];exact hlt)]
   simp[strs,hpi]
theorem Sl0.keep{ps:List (List UInt8)}{a:Option Addr}{L:List (Nat×Obj)}{w w':World} (h:ps=[]∨∃bp,a=some ⟨bp,0,none⟩∧∀i p,ps[i]?=some p→w.cell? ⟨bp,0+i*1,none⟩=some (str p)) (hs:Step [] L w w'):ps=[]∨∃bp,a=some ⟨bp,0,none⟩∧∀i p,ps[i]?=some p→w'.cell? ⟨bp,0+i*1,none⟩=some (str p):=by
 rcases h with h | ⟨bp,h1,h2⟩
 ·exact .inl h
 ·refine .inr ⟨bp,h1,fun i p hpi=>?_⟩
  have h3:=h2 i p hpi
  have hlx:bp<w.heap.size:=Nat.lt_of_not_le fun hge=>by
   simp[World.cell?,Array.getElem?_eq_none hge] at h3
  rw[cell_of_heap (hs.chg.block bp hlx (by simp))]
  exact h3
theorem cmpF_eq (p:List UInt8) (x y:List (List UInt8)):cmpF (p::x) (p::y)=cmpF x y:=by
 have h:cmpL p p=0:=by
  unfold cmpL
  split
  ·rename_i h
   exact absurd ((cmp_lt p p).2 h) (by rw[(cmp_eq0 p p).2 rfl];decide)
  ·rw[if_pos rfl]
 rw[cmpF,if_neg (by simp[h])]
theorem cmpF_ne{p q:List UInt8} (x y:List (List UInt8)) (h:p≠q):decide (cmpF (p::x) (q::y)<0)=Op.bytesLess p q:=by
 rw[cmpF]
 by_cases h1:Op.bytesLess p q=true
 ·have e:cmpL p q = -1:=by rw[cmpL,if_pos h1]
  rw[e,h1];rfl
 ·have e:cmpL p q=1:=by rw[cmpL,if_neg h1,if_neg h]
  rw[e]
  have:Op.bytesLess p q=false:=by simpa using h1
  rw[this];rfl
theorem keepCell{b o:Nat}{v:Value}{L:List (Nat×Obj)}{w w':World} (h:w.cell? ⟨b,o,none⟩=some v) (hs:Step [] L w w'):w'.cell? ⟨b,o,none⟩=some v:=by
 have hlx:b<w.heap.size:=Nat.lt_of_not_le fun hge=>by
  simp[World.cell?,Array.getElem?_eq_none hge] at h
 rw[cell_of_heap (hs.chg.block b hlx (by simp))]
 exact h
set_option maxHeartbeats 2000000 in
theorem refLess_spec{s t:List UInt8} (w0:World) (hs1:s.length<4294967281) (ht1:t.length<4294967281):CP 150 #[str s,str t] w0 (Ret0 (.bool (decide (cmpF (partsL s) (partsL t)<0))) w0):=by
 have hs:Step [] [] w0 w0:=Step.refl w0
 have hpl:=partsL_len s
 have hpt:=partsL_len t
 refine calls (n:=47) Tryz.func150 rfl rfl rfl ?_
 refine sr<|wA<|wZ<|sr<|wm<|wE rfl (run_call en154 rfl rfl) (refParts_spec _ hs1) ?_
 rintro e w ⟨u,Lu,rfl,hu,hq⟩
 refine⟨_,rfl,?_⟩
 have hs:=hq
 refine wA<|wZ<|sr<|wm<|wE rfl (run_call en154 rfl rfl) (refParts_spec _ ht1) ?_
 rintro e w ⟨u2,Lv,rfl,hv,hq2⟩
 refine⟨_,rfl,?_⟩
 have hxx:=cellsOf hu hs
 obtain⟨a,c,hq3,hcl,hcx⟩:=hxx
 subst hq3
 have hyy:=cellsOf hv hq2
 obtain⟨a2,c2,hq4,hcl2,hcy⟩:=hyy
 subst hq4
 have hcx2:=Sl0.keep hcx hq2
 replace hs:=hs.dropR (L1:=[])
 replace hs:=hs.call0 (hq2.dropR (L1:=[]))
 refine wA<|wZ<|cq<|sr<|wA<|wZ ?_
 have ob:∃x,partsL s=x:=⟨_,rfl⟩
 obtain⟨x,hx⟩:=ob
 have ob:∃y,partsL t=y:=⟨_,rfl⟩
 obtain⟨y,hy⟩:=ob
 rw[hx] at hpl hcl hcx2
 rw[hy] at hpt hcl2 hcy
 rw[hx,hy]
 have hs0:=hs
 refine cB<|CW.loop (fun m f w'=>∃i,i≤x.length∧m=x.length - i∧i≤y.length∧decide (cmpF x y<0)=decide (cmpF (x.drop i) (y.drop i)<0)∧Step [] [] w w'∧Holds f [(5,.slice a x.length c),(6,.slice a2 y.length c2),(7,.int .i64 i)]) (m:=x.length) ?_ ?_
 ·exact⟨0,by omega,by omega,by omega,rfl,Step.refl _,by rw[←hx];rfl,by rw[←hy];rfl,rfl,trivial⟩
 ·clear hs
  rintro m f w' ⟨i,hi,rfl,hiy,hgo,hs,hf⟩
  have ob:=hf.chain
  obtain⟨g,rfl⟩:=ob
  by_cases hlt:i<x.length
  ·rcases hcx2 with h | ⟨bx,rfl,hcx2⟩
   ·rw[h] at hlt;cases hlt
   have ob:∃p,x[i]=p:=⟨_,rfl⟩
   obtain⟨p,hp⟩:=ob
   have hc1:∀{w'':World},Step [] [] w w''→w''.cell? ⟨bx,0+i*1,none⟩=some (str p):=fun hs=>keepCell (hcx2 i p (by rw[getElem?_eq_getElem hlt,hp])) hs
   rw[drop_eq_getElem_cons hlt,hp] at hgo
   by_cases hly:i<y.length
   ·rcases hcy with h | ⟨by',rfl,hcy⟩
    ·rw[h] at hly;cases hly
    have ob:∃q,y[i]=q:=⟨_,rfl⟩
    obtain⟨q,hq⟩:=ob
    have hc2:∀{w'':World},Step [] [] w w''→w''.cell? ⟨by',0+i*1,none⟩=some (str q):=fun hs=>keepCell (hcy i q (by rw[getElem?_eq_getElem hly,hq])) hs
    rw[drop_eq_getElem_cons hly,hq] at hgo
    by_cases hpq:p=q
    ·rw[hpq,cmpF_eq] at hgo
     refine cq<|sr<|wm<|wm<|wV (run_lenSl u256 rfl)<|wV (run_bT (run_lss rfl rfl) (by omega))<|wm<|wy<|wm<|wy<|wm<|wy<|wV (run_lenSl u256 rfl)<|wy<|wV (run_bT (run_lss rfl rfl) (by omega))<|wV (run_pickT rfl)<|wZ ?_
     refine cT rfl<|ck<|cq<|cB<|cq<|CW.quiet mixedP (by kernel_rfl) hs ?_
     refine qm<|qm<|qV (fun w hs=>run_ixSlN u256 ty9 rfl rfl (by omega))<|qV (fun w hs=>run_load1 ty9 rfl (hc1 hs))<|qm<|qm<|qV (fun w hs=>run_ixSlN u256 ty9 rfl rfl (by omega))<|qV (fun w hs=>run_load1 ty9 rfl (hc2 hs))<|qV (fun w hs=>run_bF (run_strNe rfl rfl) (by(exact fun h=>h hpq)))<|QL.nil (fun w hs=>?_)
     refine cF rfl<|ck<|cr<|wm<|wV (run_add (c:=((i+1:Nat):Int)) rfl rfl (by omega) (by omega))<|wA<|wZ<|(show _∧_ from⟨rfl,_,?_,i+1,by omega,rfl,by omega,hgo,hs,rfl,rfl,rfl,trivial⟩)
     omega
    ·rw[cmpF_ne _ _ hpq] at hgo
     refine cq<|sr<|wm<|wm<|wV (run_lenSl u256 rfl)<|wV (run_bT (run_lss rfl rfl) (by omega))<|wm<|wy<|wm<|wy<|wm<|wy<|wV (run_lenSl u256 rfl)<|wy<|wV (run_bT (run_lss rfl rfl) (by omega))<|wV (run_pickT rfl)<|wZ ?_
     refine cT rfl<|ck<|cq<|cB<|cq<|CW.quiet mixedP (by kernel_rfl) hs ?_
     refine qm<|qm<|qV (fun w hs=>run_ixSlN u256 ty9 rfl rfl (by omega))<|qV (fun w hs=>run_load1 ty9 rfl (hc1 hs))<|qm<|qm<|qV (fun w hs=>run_ixSlN u256 ty9 rfl rfl (by omega))<|qV (fun w hs=>run_load1 ty9 rfl (hc2 hs))<|qV (fun w hs=>run_bT (run_strNe rfl rfl) (by exact hpq))<|QL.nil (fun w hs=>?_)
     refine cT rfl<|cq<|CW.quiet mixedP (by kernel_rfl) hs ?_
     refine qm<|qm<|qV (fun w hs=>run_ixSlN u256 ty9 rfl rfl (by omega))<|qV (fun w hs=>run_load1 ty9 rfl (hc1 hs))<|qm<|qm<|qV (fun w hs=>run_ixSlN u256 ty9 rfl rfl (by omega))<|qV (fun w hs=>run_load1 ty9 rfl (hc2 hs))<|qV (fun w hs=>run_bE (run_strLt rfl rfl) (rfl))<|qV (fun w hs=>run_assign)<|QL.nil (fun w hs=>?_)
     refine CW.ret ?_
     refine fin_ret1 rfl ?_
     exact⟨by rw[hgo];rfl,hs0.callE hs⟩
   ·rw[drop_eq_nil_of_le (by omega:y.length≤i),cmpF] at hgo
    refine cq<|sr<|wm<|wm<|wV (run_lenSl u256 rfl)<|wV (run_bT (run_lss rfl rfl) (by omega))<|wm<|wy<|wm<|wy<|wm<|wy<|wV (run_lenSl u256 rfl)<|wy<|wV (run_bF (run_lss rfl rfl) (by omega))<|wV (run_pickT rfl)<|wZ ?_
    refine cF rfl<|CW.exit<|sr<|wm<|wV (run_lenSl u256 rfl)<|wm<|wV (run_lenSl u256 rfl)<|wV (run_bF (run_lss rfl rfl) (by omega))<|wA<|wZ<|CW.ret ?_
    refine fin_ret1 rfl ?_
    exact⟨by rw[hgo];rfl,hs0.callE hs⟩
  ·have hii:i=x.length:=by omega
   rw[drop_eq_nil_of_le (by omega:x.length≤i)] at hgo
   by_cases hly:i<y.length
   ·rw[drop_eq_getElem_cons hly,cmpF] at hgo
    refine cq<|sr<|wm<|wm<|wV (run_lenSl u256 rfl)<|wV (run_bF (run_lss rfl rfl) (by omega))<|wm<|wz<|wz<|wz<|wz<|wV (run_pickF rfl)<|wZ ?_
    refine cF rfl<|CW.exit<|sr<|wm<|wV (run_lenSl u256 rfl)<|wm<|wV (run_lenSl u256 rfl)<|wV (run_bT (run_lss rfl rfl) (by omega))<|wA<|wZ<|CW.ret ?_
    refine fin_ret1 rfl ?_
    exact⟨by rw[hgo];rfl,hs0.callE hs⟩
   ·rw[drop_eq_nil_of_le (by omega:y.length≤i),cmpF] at hgo
    refine cq<|sr<|wm<|wm<|wV (run_lenSl u256 rfl)<|wV (run_bF (run_lss rfl rfl) (by omega))<|wm<|wz<|wz<|wz<|wz<|wV (run_pickF rfl)<|wZ ?_
    refine cF rfl<|CW.exit<|sr<|wm<|wV (run_lenSl u256 rfl)<|wm<|wV (run_lenSl u256 rfl)<|wV (run_bF (run_lss rfl rfl) (by omega))<|wA<|wZ<|CW.ret ?_
    refine fin_ret1 rfl ?_
    exact⟨by rw[hgo];rfl,hs0.callE hs⟩
end
def Texts (w:World) (a:Option Addr) (x:List (List UInt8)):Prop:=x=[]∨∃bp,a=some ⟨bp,0,none⟩∧∀i p,x[i]?=some p→w.cell? ⟨bp,0+i*1,none⟩=some (str p)
theorem Texts.get{w:World}{a:Option Addr}{x:List (List UInt8)} (h:Texts w a x){i:Nat} (hi:i<x.length):∃bp p,a=some ⟨bp,0,none⟩∧x[i]?=some p∧p∈x∧∀{L w'},Step [] L w w'→w'.cell? ⟨bp,0+i*1,none⟩=some (str p):=by
 rcases h with h | ⟨bp,h1,h2⟩
 ·rw[h] at hi;cases hi
 ·exact⟨bp,x[i],h1,getElem?_eq_getElem hi,getElem_mem hi,fun hs=>keepCell (h2 i _ (getElem?_eq_getElem hi)) hs⟩
def underL (x y:List (List UInt8)):Bool:=decide (x=y.take x.length)
theorem refUnder_spec{s t:List UInt8} (w0:World) (hs1:s.length<4294967281) (ht1:t.length<4294967281):CP 153 #[str s,str t] w0 (Ret0 (.bool (underL (partsL s) (partsL t))) w0):=by
 have hpl:=partsL_len s
 have hpt:=partsL_len t
 refine calls (n:=32) Tryz.func153 rfl rfl rfl ?_
 refine sr<|wA<|wZ<|sr<|wm<|wE rfl (run_call en154 rfl rfl) (refParts_spec _ hs1) ?_
 rintro e w ⟨u,Lu,rfl,hu,hq⟩
 refine⟨_,rfl,?_⟩
 have hs:=hq
 refine wA<|wZ<|sr<|wm<|wE rfl (run_call en154 rfl rfl) (refParts_spec _ ht1) ?_
 rintro e w ⟨u2,Lv,rfl,hv,hq2⟩
 refine⟨_,rfl,?_⟩
 have hxx:=cellsOf hu hs
 obtain⟨a,c,hq3,hcl,hcx⟩:=hxx
 subst hq3
 have hyy:=cellsOf hv hq2
 obtain⟨a2,c2,hq4,hcl2,hcy⟩:=hyy
 subst hq4
 have hcx2:Texts _ _ _:=Sl0.keep hcx hq2
 replace hs:=hs.dropR (L1:=[])
 replace hs:=hs.call0 (hq2.dropR (L1:=[]))
 refine wA<|wZ ?_
 by_cases hle:(partsL s).length≤(partsL t).length
 ·refine cq<|sr<|wm<|wV (run_lenSl u256 rfl)<|wm<|wV (run_lenSl u256 rfl)<|wV (run_bF (run_gtr rfl rfl) (by omega))<|wZ<|cF rfl<|ck<|cq<|sr<|wA<|wZ ?_
  have hs0:=hs
  refine cB<|CW.loop (fun m f w'=>∃i,i≤(partsL s).length∧m=(partsL s).length - i∧(partsL s).take i=(partsL t).take i∧Step [] [] w w'∧Holds f [(5,.slice a (partsL s).length c),(6,.slice a2 (partsL t).length c2),(7,.int .i64 i)]) (m:=(partsL s).length) ?_ ?_
  ·exact⟨0,by omega,by omega,by simp,Step.refl _,rfl,rfl,rfl,trivial⟩
  ·clear hs
   rintro m f w' ⟨i,hi,rfl,hsame,hs,hf⟩
   have ob:=hf.chain
   obtain⟨g,rfl⟩:=ob
   by_cases hlt:i<(partsL s).length
   ·have ob:=Texts.get hcx2 hlt
    obtain⟨bx,p,rfl,hpi,hpm,hcp⟩:=ob
    have ob:=Texts.get hcy (show i<(partsL t).length by omega)
    obtain⟨bq,q,rfl,hqi,hqm,hcq⟩:=ob
    by_cases hpq:p=q
    ·refine cq<|sr<|wm<|wm<|wV (run_lenSl u256 rfl)<|wV (run_bT (run_lss rfl rfl) (by omega))<|wZ<|cT rfl<|ck<|cq<|cB<|cq<|CW.quiet mixedP (by kernel_rfl) hs ?_
     refine qm<|qm<|qV (fun w hs=>run_ixSlN u256 ty9 rfl rfl (by omega))<|qV (fun w hs=>run_load1 ty9 rfl ((hcp hs)))<|qm<|qm<|qV (fun w hs=>run_ixSlN u256 ty9 rfl rfl (by omega))<|qV (fun w hs=>run_load1 ty9 rfl ((hcq hs)))<|qV (fun w hs=>run_bF (run_strNe rfl rfl) (by(exact fun h=>h hpq)))<|QL.nil (fun w hs=>?_)
     refine cF rfl<|ck<|cr<|wm<|wV (run_add (c:=((i+1:Nat):Int)) rfl rfl (by omega) (by omega))<|wA<|wZ<|(show _∧_ from⟨rfl,_,?_,i+1,by omega,rfl,?_,hs,rfl,rfl,rfl,trivial⟩)
     ·omega
     ·rw[take_add_one,take_add_one,hsame,hpi,hqi,hpq]
    ·refine cq<|sr<|wm<|wm<|wV (run_lenSl u256 rfl)<|wV (run_bT (run_lss rfl rfl) (by omega))<|wZ<|cT rfl<|ck<|cq<|cB<|cq<|CW.quiet mixedP (by kernel_rfl) hs ?_
     refine qm<|qm<|qV (fun w hs=>run_ixSlN u256 ty9 rfl rfl (by omega))<|qV (fun w hs=>run_load1 ty9 rfl ((hcp hs)))<|qm<|qm<|qV (fun w hs=>run_ixSlN u256 ty9 rfl rfl (by omega))<|qV (fun w hs=>run_load1 ty9 rfl ((hcq hs)))<|qV (fun w hs=>run_bT (run_strNe rfl rfl) (by exact hpq))<|QL.nil (fun w hs=>?_)
     refine cT rfl<|sr<|wA<|wZ<|CW.ret ?_
     refine fin_ret1 rfl ?_
     refine⟨congrArg (fun b=>Ending.returned (.bool b)) (show false=underL (partsL s) (partsL t) from(decide_eq_false fun h=>hpq ?_).symm),hs0.callE hs⟩
     have h1:=congrArg (·[i]?) h
     simp only[getElem?_take,if_pos hlt,hpi,hqi] at h1
     exact Option.some.inj h1
   ·obtain rfl:i=(partsL s).length:=by omega
    refine cq<|sr<|wm<|wm<|wV (run_lenSl u256 rfl)<|wV (run_bF (run_lss rfl rfl) (by omega))<|wZ<|cF rfl<|CW.exit<|sr<|wA<|wZ ?_
    refine CW.ret ?_
    refine fin_ret1 rfl ?_
    refine⟨congrArg (fun b=>Ending.returned (.bool b)) (show true=underL (partsL s) (partsL t) from(decide_eq_true ?_).symm),hs0.callE hs⟩
    rw[←hsame,take_length]
 ·refine cq<|sr<|wm<|wV (run_lenSl u256 rfl)<|wm<|wV (run_lenSl u256 rfl)<|wV (run_bT (run_gtr rfl rfl) (by omega))<|wZ<|cT rfl<|sr<|wA<|wZ ?_
  refine CW.ret ?_
  refine fin_ret1 rfl ?_
  refine⟨congrArg (fun b=>Ending.returned (.bool b)) (show false=underL (partsL s) (partsL t) from(decide_eq_false fun h=>hle ?_).symm),hs⟩
  have:=congrArg List.length h
  rw[length_take] at this
  omega
end Go.Gx
namespace Go.Gx
open Go.Proofs List
theorem exists_cons' {α:Type}{l:List α}{n:Nat} (h:l.length=n+1):∃a t,l=a::t∧t.length=n:=by
 cases l with
 | nil=>simp at h
 | cons a t=>exact⟨a,t,rfl,by simpa using h⟩
theorem cells32{l:List UInt8} (h:l.length=32):∃a0 a1 a2 a3 a4 a5 a6 a7 a8 a9 a10 a11 a12 a13 a14 a15 a16 a17 a18 a19 a20 a21 a22 a23 a24 a25 a26 a27 a28 a29 a30 a31,l=[a0,a1,a2,a3,a4,a5,a6,a7,a8,a9,a10,a11,a12,a13,a14,a15,a16,a17,a18,a19,a20,a21,a22,a23,a24,a25,a26,a27,a28,a29,a30,a31]:=by
 have ob:=exists_cons' h
 obtain⟨a0,l0,rfl,h0⟩:=ob
 have ob:=exists_cons' h0
 obtain⟨a1,l1,rfl,h1⟩:=ob
 have ob:=exists_cons' h1
 obtain⟨a2,l2,rfl,h2⟩:=ob
 have ob:=exists_cons' h2
 obtain⟨a3,l3,rfl,h3⟩:=ob
 have ob:=exists_cons' h3
 obtain⟨a4,l4,rfl,h4⟩:=ob
 have ob:=exists_cons' h4
 obtain⟨a5,l5,rfl,h5⟩:=ob
 have ob:=exists_cons' h5
 obtain⟨a6,l6,rfl,h6⟩:=ob
 have ob:=exists_cons' h6
 obtain⟨a7,l7,rfl,h7⟩:=ob
 have ob:=exists_cons' h7
 obtain⟨a8,l8,rfl,h8⟩:=ob
 have ob:=exists_cons' h8
 obtain⟨a9,l9,rfl,h9⟩:=ob
 have ob:=exists_cons' h9
 obtain⟨a10,l10,rfl,h10⟩:=ob
 have ob:=exists_cons' h10
 obtain⟨a11,l11,rfl,h11⟩:=ob
 have ob:=exists_cons' h11
 obtain⟨a12,l12,rfl,h12⟩:=ob
 have ob:=exists_cons' h12
 obtain⟨a13,l13,rfl,h13⟩:=ob
 have ob:=exists_cons' h13
 obtain⟨a14,l14,rfl,h14⟩:=ob
 have ob:=exists_cons' h14
 obtain⟨a15,l15,rfl,h15⟩:=ob
 have ob:=exists_cons' h15
 obtain⟨a16,l16,rfl,h16⟩:=ob
 have ob:=exists_cons' h16
 obtain⟨a17,l17,rfl,h17⟩:=ob
 have ob:=exists_cons' h17
 obtain⟨a18,l18,rfl,h18⟩:=ob
 have ob:=exists_cons' h18
 obtain⟨a19,l19,rfl,h19⟩:=ob
 have ob:=exists_cons' h19
 obtain⟨a20,l20,rfl,h20⟩:=ob
 have ob:=exists_cons' h20
 obtain⟨a21,l21,rfl,h21⟩:=ob
 have ob:=exists_cons' h21
 obtain⟨a22,l22,rfl,h22⟩:=ob
 have ob:=exists_cons' h22
 obtain⟨a23,l23,rfl,h23⟩:=ob
 have ob:=exists_cons' h23
 obtain⟨a24,l24,rfl,h24⟩:=ob
 have ob:=exists_cons' h24
 obtain⟨a25,l25,rfl,h25⟩:=ob
 have ob:=exists_cons' h25
 obtain⟨a26,l26,rfl,h26⟩:=ob
 have ob:=exists_cons' h26
 obtain⟨a27,l27,rfl,h27⟩:=ob
 have ob:=exists_cons' h27
 obtain⟨a28,l28,rfl,h28⟩:=ob
 have ob:=exists_cons' h28
 obtain⟨a29,l29,rfl,h29⟩:=ob
 have ob:=exists_cons' h29
 obtain⟨a30,l30,rfl,h30⟩:=ob
 have ob:=exists_cons' h30
 obtain⟨a31,l31,rfl,h31⟩:=ob
 obtain rfl:=eq_nil_of_length_eq_zero h31
 exact⟨a0,a1,a2,a3,a4,a5,a6,a7,a8,a9,a10,a11,a12,a13,a14,a15,a16,a17,a18,a19,a20,a21,a22,a23,a24,a25,a26,a27,a28,a29,a30,a31,rfl⟩
structure Blb where
 d:List UInt8
 x:List UInt8
 st:Nat
structure AS where
 k:Nat
 cap:Nat
 last:Nat
 gets:Nat
 puts:Nat
 X:List Blb
def usedX (X:List Blb):Nat:=(X.map fun b=>b.x.length+32).sum
def findX (d:List UInt8) (X:List Blb):Option Blb:=X.find? fun b=>decide (b.d=d)
def insX (b:Blb):List Blb→List Blb
 | []=>[b]
 | c::X=>if c.d=b.d then b::X else if ltD b.d c.d then b::c::X else c::insX b X
def delX (d:List UInt8) (X:List Blb):List Blb:=X.filter fun b=>decide (b.d≠d)
abbrev SortedX (X:List Blb):Prop:=X.Pairwise fun a b=>ltD a.d b.d=true
structure AS.Ok (s:AS):Prop where
 k1:1≤s.k
 k2:s.k≤32
 cap:s.cap≤67108864
 sorted:SortedX s.X
 len:∀b∈s.X,b.d.length=32
 used:usedX s.X≤67108864
structure AS.Few (s:AS) (n:Nat):Prop where
 last:s.last≤n
 gets:s.gets≤n
 puts:s.puts≤n
theorem AS.Few.mono{s:AS}{n m:Nat} (h:s.Few n) (hm:n≤m):s.Few m:=⟨Nat.le_trans h.last hm,Nat.le_trans h.gets hm,Nat.le_trans h.puts hm⟩
theorem ltD_ne{a b:List UInt8} (h:ltD a b=true):a≠b:=fun e=>by subst e;rw[ltD_irrefl] at h;cases h
theorem ltD_asymm{a b:List UInt8} (h:ltD a b=true):ltD b a=false:=by
 cases h2:ltD b a with
 | false=>rfl
 | true=>have:=ltD_trans _ _ _ h h2;rw[ltD_irrefl] at this;cases this
theorem SortedX.nodup{X:List Blb} (h:SortedX X):(X.map (·.d)).Nodup:=by
 rw[nodup_iff_pairwise_ne,pairwise_map]
 exact h.imp fun h=>ltD_ne h
theorem usedX_perm{X Y:List Blb} (h:X.Perm Y):usedX X=usedX Y:=(h.map _).sum_nat
theorem usedX_cons (b:Blb) (X:List Blb):usedX (b::X)=b.x.length+32+usedX X:=by simp[usedX]
theorem used_mem{X:List Blb}{b:Blb} (h:b∈X):b.x.length+32≤usedX X:=by
 induction X with
 | nil=>cases h
 | cons c X ih=>
  rw[usedX_cons]
  rcases mem_cons.1 h with rfl | h
  ·omega
  ·have:=ih h;omega
theorem used_len (X:List Blb):32*X.length≤usedX X:=by
 induction X with
 | nil=>exact Nat.zero_le _
 | cons c X ih=>rw[usedX_cons,length_cons];omega
theorem findX_some{d:List UInt8}{X:List Blb}{b:Blb} (h:findX d X=some b):b∈X∧b.d=d:=by
 have h1:=List.find?_some h
 exact⟨mem_of_find?_eq_some h,by simpa using h1⟩
theorem findX_none{d:List UInt8}{X:List Blb} (h:findX d X=none):∀b∈X,b.d≠d:=by
 intro b hb he
 have:=List.find?_eq_none.1 h b hb
 simp[he] at this
theorem findX_mem{X:List Blb} (hn:(X.map (·.d)).Nodup){b:Blb} (hb:b∈X):findX b.d X=some b:=by
 induction X with
 | nil=>cases hb
 | cons c X ih=>
  rw[map_cons,nodup_cons] at hn
  rw[findX,List.find?_cons]
  by_cases hc:c.d=b.d
  ·rcases mem_cons.1 hb with rfl | hb
   ·simp
   ·exact absurd (hc▸mem_map_of_mem hb) hn.1
  ·simp only[hc,decide_false]
   rcases mem_cons.1 hb with rfl | hb
   ·exact absurd rfl hc
   ·exact ih hn.2 hb
theorem findX_perm{X Y:List Blb} (h:X.Perm Y) (hn:(Y.map (·.d)).Nodup) (d:List UInt8):findX d X=findX d Y:=by
 have hn':(X.map (·.d)).Nodup:=(h.map _).nodup_iff.2 hn
 cases hx:findX d X with
 | some b=>
  have ob:=findX_some hx
  obtain⟨h1,rfl⟩:=ob
  exact(findX_mem hn (h.mem_iff.1 h1)).symm
 | none=>
  cases hy:findX d Y with
  | none=>rfl
  | some b=>
   have ob:=findX_some hy
   obtain⟨h1,h2⟩:=ob
   exact absurd h2 (findX_none hx b (h.mem_iff.2 h1))
theorem delX_none{d:List UInt8}{X:List Blb} (h:findX d X=none):delX d X=X:=by
 rw[delX,filter_eq_self]
 intro b hb
 simpa using findX_none h b hb
theorem delX_perm{X Y:List Blb} (h:X.Perm Y) (d:List UInt8):(delX d X).Perm (delX d Y):=h.filter _
theorem delX_some{X:List Blb} (hn:(X.map (·.d)).Nodup){d:List UInt8}{b:Blb} (h:findX d X=some b):X.Perm (b::delX d X):=by
 induction X with
 | nil=>cases h
 | cons c X ih=>
  rw[map_cons,nodup_cons] at hn
  by_cases hc:c.d=d
  ·have:c=b:=by
    rw[findX,List.find?_cons] at h
    simpa[hc] using h
   subst this
   have hnn:findX d X=none:=by
    cases hx:findX d X with
    | none=>rfl
    | some e=>
     have ob:=findX_some hx
     obtain⟨h1,h2⟩:=ob
     exact absurd (by rw[hc,←h2];exact mem_map_of_mem h1) hn.1
   have hd:delX d (c::X)=X:=by
    rw[delX,filter_cons]
    simp only[hc,ne_eq,not_true_eq_false,decide_false,Bool.false_eq_true,if_false]
    exact delX_none hnn
   rw[hd]
  ·have hx:findX d X=some b:=by
    rw[findX,List.find?_cons] at h
    simp only[hc,decide_false] at h
    exact h
   have hd:delX d (c::X)=c::delX d X:=by
    rw[delX,filter_cons,if_pos (by simpa using hc)]
    rfl
   rw[hd]
   exact((ih hn.2 hx).cons c).trans (List.Perm.swap _ _ _)
theorem insX_perm (b:Blb):∀{X:List Blb},SortedX X→(insX b X).Perm (b::delX b.d X)
 | [],_=>List.Perm.refl _
 | c::X,h=>by
  rw[SortedX,pairwise_cons] at h
  rw[insX]
  by_cases hc:c.d=b.d
  ·rw[if_pos hc]
   have hd:delX b.d (c::X)=X:=by
    rw[delX,filter_cons]
    simp only[hc,ne_eq,not_true_eq_false,decide_false,Bool.false_eq_true,if_false]
    rw[filter_eq_self]
    intro e he
    have:=h.1 e he
    rw[hc] at this
    simpa using(ltD_ne this).symm
   rw[hd]
  ·rw[if_neg hc]
   have hd:delX b.d (c::X)=c::delX b.d X:=by
    rw[delX,filter_cons,if_pos (by simpa using hc)]
    rfl
   by_cases hl:ltD b.d c.d=true
   ·rw[if_pos hl,hd]
    have:delX b.d X=X:=by
     rw[delX,filter_eq_self]
     intro e he
     have h1:=ltD_trans _ _ _ hl (h.1 e he)
     simpa using(ltD_ne h1).symm
    rw[this]
   ·rw[if_neg hl,hd]
    exact((insX_perm b h.2).cons c).trans (List.Perm.swap _ _ _)
theorem insX_mem{b e:Blb}:∀{X:List Blb},e∈insX b X→e=b∨e∈X
 | [],h=>by rw[insX] at h;exact .inl (by simpa using h)
 | c::X,h=>by
  rw[insX] at h
  split at h
  ·rcases mem_cons.1 h with rfl | h
   ·exact .inl rfl
   ·exact .inr (by simp[h])
  ·split at h
   ·rcases mem_cons.1 h with rfl | h
    ·exact .inl rfl
    ·exact .inr h
   ·rcases mem_cons.1 h with rfl | h
    ·exact .inr (by simp)
    ·rcases insX_mem h with h | h
     ·exact .inl h
     ·exact .inr (by simp[h])
theorem insX_sorted (b:Blb):∀{X:List Blb},SortedX X→SortedX (insX b X)
 | [],_=>by simp[insX,SortedX]
 | c::X,h=>by
  have h0:=h
  rw[SortedX,pairwise_cons] at h
  rw[insX]
  by_cases hc:c.d=b.d
  ·rw[if_pos hc,SortedX,pairwise_cons]
   exact⟨fun e he=>by rw[←hc];exact h.1 e he,h.2⟩
  ·rw[if_neg hc]
   by_cases hl:ltD b.d c.d=true
   ·rw[if_pos hl,SortedX,pairwise_cons]
    refine⟨fun e he=>?_,h0⟩
    rcases mem_cons.1 he with rfl | he
    ·exact hl
    ·exact ltD_trans _ _ _ hl (h.1 e he)
   ·rw[if_neg hl,SortedX,pairwise_cons]
    refine⟨fun e he=>?_,insX_sorted b h.2⟩
    rcases insX_mem he with rfl | he
    ·cases h1:ltD c.d e.d with
     | true=>rfl
     | false=>exact absurd (ltD_tri _ _ h1 (by simpa using hl)) hc
    ·exact h.1 e he
theorem delX_sorted{X:List Blb} (h:SortedX X) (d:List UInt8):SortedX (delX d X):=h.filter _
theorem used_ins{X:List Blb} (h:SortedX X) (b:Blb):usedX (insX b X)+(match findX b.d X with | some c=>c.x.length+32 | none=>0)=usedX X+(b.x.length+32):=by
 rw[usedX_perm (insX_perm b h),usedX_cons]
 cases hf:findX b.d X with
 | none=>rw[delX_none hf];simp only;omega
 | some c=>
  have:=usedX_perm (delX_some h.nodup hf)
  rw[usedX_cons] at this
  simp only
  omega
theorem used_del{X:List Blb} (h:SortedX X) (d:List UInt8):usedX (delX d X)+(match findX d X with | some c=>c.x.length+32 | none=>0)=usedX X:=by
 cases hf:findX d X with
 | none=>rw[delX_none hf];rfl
 | some c=>
  have:=usedX_perm (delX_some h.nodup hf)
  rw[usedX_cons] at this
  simp only
  omega
def AS.lay (s:AS) (d x:List UInt8):Option AS:=if usedX (insX ⟨d,x,s.last+1⟩ s.X)≤s.cap then some { s with last:=s.last+1,X:=insX ⟨d,x,s.last+1⟩ s.X } else none
def AS.put (s:AS) (y:List UInt8):List UInt8×Nat×AS:=
 let s1:={ s with puts:=s.puts+1 }
 if 1048576<y.length then (zD,2,s1) else
 let d:=frontL y s.k
 let go:=match s1.lay d y with | some s2=>(d,0,s2) | none=>(zD,43,s1)
 match findX d s.X with
 | some b=>if b.x=y then (d,0,s1) else if frontL b.x s.k=d then (zD,44,s1) else go
 | none=>go
def AS.get (s:AS) (d:List UInt8):List UInt8×Nat:=
 match findX d s.X with
 | none=>([],41)
 | some b=>if frontL b.x s.k=d then (b.x,0) else ([],42)
def AS.got (s:AS):AS:={ s with gets:=s.gets+1 }
def AS.raw (s:AS) (d:List UInt8):List UInt8:=match findX d s.X with | some b=>b.x | none=>[]
def AS.has (s:AS) (d:List UInt8):Bool:=(findX d s.X).isSome
def AS.whole (s:AS) (d:List UInt8):Bool:=match findX d s.X with | some b=>decide (frontL b.x s.k=d) | none=>false
def AS.stamp (s:AS) (d:List UInt8):Nat:=match findX d s.X with | some b=>b.st | none=>0
def AS.evict (s:AS) (d:List UInt8):AS:={ s with X:=delX d s.X }
def AS.plant (s:AS) (d y:List UInt8):Nat×AS:=
 if fitsL d s.k=false then (1,s) else if 1048576<y.length then (2,s) else
 match s.lay d y with | some s2=>(0,s2) | none=>(43,s)
def AS.limit (s:AS) (c:Int):Nat×AS:=if 0≤c∧c≤67108864 then (0,{ s with cap:=c.toNat }) else (1,s)
theorem AS.Ok.lay {s s':AS} (h:s.Ok){d x:List UInt8} (hd:d.length=32) (hl:s.lay d x=some s'):s'.Ok:=by
 unfold AS.lay at hl
 split at hl
 ·rename_i hu
  obtain rfl:=(Option.some.inj hl).symm
  exact⟨h.k1,h.k2,h.cap,insX_sorted _ h.sorted,fun b hb=>by
   rcases insX_mem hb with rfl | hb
   ·exact hd
   ·exact h.len b hb,Nat.le_trans hu h.cap⟩
 ·cases hl
theorem AS.Ok.del{s:AS} (h:s.Ok) (d:List UInt8):(s.evict d).Ok:=
 ⟨h.k1,h.k2,h.cap,delX_sorted h.sorted d,fun b hb=>h.len b ((mem_filter.1 hb).1),by
  have:=used_del h.sorted d
  have h2:=h.used
  show usedX (delX d s.X)≤_
  omega⟩
theorem AS.Ok.put{s:AS} (h:s.Ok) (y:List UInt8):(s.put y).2.2.Ok:=by
 have h1:({ s with puts:=s.puts+1 }:AS).Ok:=⟨h.k1,h.k2,h.cap,h.sorted,h.len,h.used⟩
 have hgo:∀r:List UInt8×Nat×AS,r=(match ({ s with puts:=s.puts+1 }:AS).lay (frontL y s.k) y with | some s2=>(frontL y s.k,0,s2) | none=>(zD,43,{ s with puts:=s.puts+1 }))→r.2.2.Ok:=by
  intro r hr
  cases hl:({ s with puts:=s.puts+1 }:AS).lay (frontL y s.k) y with
  | none=>rw[hl] at hr;rw[hr];exact h1
  | some s2=>rw[hl] at hr;rw[hr];exact h1.lay (frontL_len h.k2) hl
 unfold AS.put
 simp only
 split
 ·exact h1
 ·split
  ·split
   ·exact h1
   ·split
    ·exact h1
    ·exact hgo _ rfl
  ·exact hgo _ rfl
theorem AS.Ok.plant{s:AS} (h:s.Ok){d:List UInt8} (hd:d.length=32) (y:List UInt8):(s.plant d y).2.Ok:=by
 unfold AS.plant
 split
 ·exact h
 ·split
  ·exact h
  ·cases hl:s.lay d y with
   | none=>exact h
   | some s2=>exact h.lay hd hl
theorem AS.Few.lay {s s':AS}{n:Nat} (h:s.Few n){d x:List UInt8} (hl:s.lay d x=some s'):s'.Few (n+1):=by
 unfold AS.lay at hl
 split at hl
 ·obtain rfl:=(Option.some.inj hl).symm
  exact⟨Nat.succ_le_succ h.last,Nat.le_succ_of_le h.gets,Nat.le_succ_of_le h.puts⟩
 ·cases hl
theorem AS.Few.put{s:AS}{n:Nat} (h:s.Few n) (y:List UInt8):(s.put y).2.2.Few (n+1):=by
 have h1:({ s with puts:=s.puts+1 }:AS).Few (n+1):=⟨Nat.le_succ_of_le h.last,Nat.le_succ_of_le h.gets,Nat.succ_le_succ h.puts⟩
 have hgo:∀r:List UInt8×Nat×AS,r=(match ({ s with puts:=s.puts+1 }:AS).lay (frontL y s.k) y with | some s2=>(frontL y s.k,0,s2) | none=>(zD,43,{ s with puts:=s.puts+1 }))→r.2.2.Few (n+1):=by
  intro r hr
  cases hl:({ s with puts:=s.puts+1 }:AS).lay (frontL y s.k) y with
  | none=>rw[hl] at hr;rw[hr];exact h1
  | some s2=>
   rw[hl] at hr;rw[hr]
   unfold AS.lay at hl
   split at hl
   ·obtain rfl:=(Option.some.inj hl).symm
    exact⟨Nat.succ_le_succ h.last,Nat.le_succ_of_le h.gets,Nat.succ_le_succ h.puts⟩
   ·cases hl
 unfold AS.put
 simp only
 split
 ·exact h1
 ·split
  ·split
   ·exact h1
   ·split
    ·exact h1
    ·exact hgo _ rfl
  ·exact hgo _ rfl
theorem AS.Few.plant{s:AS}{n:Nat} (h:s.Few n) (d y:List UInt8):(s.plant d y).2.Few (n+1):=by
 unfold AS.plant
 split
 ·exact h.mono (Nat.le_succ _)
 ·split
  ·exact h.mono (Nat.le_succ _)
  ·cases hl:s.lay d y with
   | none=>exact h.mono (Nat.le_succ _)
   | some s2=>exact h.lay hl
theorem AS.Few.evict{s:AS}{n:Nat} (h:s.Few n) (d:List UInt8):(s.evict d).Few n:=⟨h.last,h.gets,h.puts⟩
end Go.Gx
namespace Go.Gx
open Go.Proofs List
attribute [local irreducible] shaL cutD frontL
def Held (D:List (Nat×Obj)) (v:Value) (x:List UInt8):Prop:=∃Lv,OwnSl 5 1 v x.length (u8s x) Lv∧∀p∈Lv,p∈D
theorem Held.mono {D D':List (Nat×Obj)}{v:Value}{x:List UInt8} (h:Held D v x) (hD:∀p∈D,p∈D'):Held D' v x:=by
 obtain⟨Lv,h1,h2⟩:=h
 exact⟨Lv,h1,fun p hp=>hD p (h2 p hp)⟩
theorem Held.form{D:List (Nat×Obj)}{v:Value}{x:List UInt8} (h:Held D v x):∃a c,v=.slice a x.length c:=by
 obtain⟨Lv,h1,h2⟩:=h
 exact h1.form
theorem Held.sl{D:List (Nat×Obj)}{v:Value}{x:List UInt8}{w:World} (h:Held D v x) (hw:∀p∈D,w.heap[p.1]?=some p.2):Sl w 1 v x.length (u8s x):=by
 obtain⟨Lv,⟨hl,h1⟩,h2⟩:=h
 rcases h1 with⟨rfl,h0,rfl⟩ | ⟨b,cap,more,rfl,rfl,hc⟩
 ·rw[eq_nil_of_length_eq_zero h0];exact Sl.nil _ _ _
 ·exact .mk hl (At.of_blk (hw _ (h2 (b,blk 5 (u8s x++more)) (by simp)))).left
theorem Held.room{D:List (Nat×Obj)}{v:Value}{x:List UInt8} (h:Held D v x):Room v:=by
 obtain⟨Lv,⟨hl,h1⟩,h2⟩:=h
 rcases h1 with⟨rfl,h0,rfl⟩ | ⟨b,cap,more,rfl,rfl,hc⟩
 ·exact Nat.le_refl _
 ·show x.length≤cap
  rw[length_append] at hc
  omega
theorem Held.out{D:List (Nat×Obj)}{v:Value}{x:List UInt8} (h:Held D v x){S:List Nat} (hS:∀p∈D,p.1∉S):Outside v S:=by
 obtain⟨Lv,⟨hl,h1⟩,h2⟩:=h
 rcases h1 with⟨rfl,h0,rfl⟩ | ⟨b,cap,more,rfl,rfl,hc⟩
 ·trivial
 ·exact hS _ (h2 (b,blk 5 (u8s x++more)) (by simp))
def EntB (D:List (Nat×Obj)) (p:MEnt) (b:Blb):Prop:=p.1=b.d∧∃v,p.2.1=.agg #[v,.int .i64 (b.st:Nat)]∧Held D v b.x
inductive View (D:List (Nat×Obj)):List MEnt→List Blb→Prop
 | nil:View D [] []
 | cons{p:MEnt}{b:Blb}{M:List MEnt}{X:List Blb}:EntB D p b→View D M X→View D (p::M) (b::X)
section
variable {D D':List (Nat×Obj)}{M:List MEnt}{X:List Blb}{d:List UInt8}
theorem EntB.mono{p:MEnt}{b:Blb} (h:EntB D p b) (hD:∀p∈D,p∈D'):EntB D' p b:=by
 obtain⟨h1,v,h2,h3⟩:=h
 exact⟨h1,v,h2,h3.mono hD⟩
theorem View.mono (h:View D M X) (hD:∀p∈D,p∈D'):View D' M X:=by
 induction h with
 | nil=>exact .nil
 | cons h _ ih=>exact .cons (h.mono hD) ih
theorem View.fst (h:View D M X):M.map (fun p=>p.1)=X.map (·.d):=by
 induction h with
 | nil=>rfl
 | cons h _ ih=>rw[map_cons,map_cons,ih,h.1]
theorem View.length (h:View D M X):M.length=X.length:=by
 have:=congrArg List.length h.fst
 simpa using this
theorem View.blobV (h:View D M X):∀p∈M,BlobV p.2.1:=by
 induction h with
 | nil=>intro p hp;cases hp
 | cons h _ ih=>
  intro q hq
  rcases mem_cons.1 hq with rfl | hq
  ·obtain⟨_,v,h2,h3⟩:=h
   have ob:=h3.form
   obtain⟨a,c,rfl⟩:=ob
   exact⟨a,_,c,_,h2⟩
  ·exact ih q hq
theorem View.append {M':List MEnt}{X':List Blb} (h:View D M X) (h':View D M' X'):View D (M++M') (X++X'):=by
 induction h with
 | nil=>exact h'
 | cons h _ ih=>exact .cons h ih
theorem View.find (h:View D M X) (d:List UInt8):match findX d X with
  | none=>findD d M 0=none
  | some b=>∃i v,findD d M 0=some (i,.agg #[v,.int .i64 (b.st:Nat)])∧Held D v b.x:=by
 induction h with
 | nil=>rfl
 | @cons p b M X h _ ih=>
  obtain⟨h1,v,h2,h3⟩:=h
  rw[findX,List.find?_cons]
  by_cases hd:b.d=d
  ·simp only[hd,decide_true]
   refine⟨0,v,?_,h3⟩
   rw[findD,if_pos (by rw[h1,hd]),h2]
  ·simp only[hd,decide_false]
   have e:findD d (p::M) 0=(findD d M 0).map fun q=>(q.1+1,q.2):=by
    rw[findD,if_neg (by rw[h1];exact fun e=>hd e.symm),findD_shift]
   rw[e]
   have ih':=ih
   unfold findX at ih'
   cases hx:X.find? (fun b=>decide (b.d=d)) with
   | none=>rw[hx] at ih';simp only at ih'⊢;rw[ih'];rfl
   | some c=>
    rw[hx] at ih'
    obtain⟨i,v',hv,hh⟩:=ih'
    exact⟨i+1,v',by rw[hv];rfl,hh⟩
def upX (b:Blb):List Blb→List Blb
 | []=>[]
 | c::X=>if c.d=b.d then b::X else c::upX b X
theorem View.upd (h:View D M X){b:Blb}{v:Value} (hv:Held D v b.x):View D (updD b.d (.agg #[v,.int .i64 (b.st:Nat)]) M) (upX b X):=by
 induction h with
 | nil=>exact .nil
 | @cons p c M X h hM ih=>
  rw[updD,upX]
  by_cases hc:c.d=b.d
  ·rw[if_pos hc,if_pos (by rw[h.1];exact hc.symm)]
   exact .cons ⟨h.1.trans hc,v,rfl,hv⟩ hM
  ·rw[if_neg hc,if_neg (by rw[h.1];exact fun e=>hc e.symm)]
   exact .cons h ih
theorem upX_perm{b:Blb}:∀{X:List Blb},(X.map (·.d)).Nodup→(findX b.d X).isSome=true→(upX b X).Perm (b::delX b.d X)
 | [],_,h=>by cases h
 | c::X,hn,h=>by
  rw[map_cons,nodup_cons] at hn
  rw[upX]
  by_cases hc:c.d=b.d
  ·rw[if_pos hc]
   have hnn:findX b.d X=none:=by
    cases hx:findX b.d X with
    | none=>rfl
    | some e=>
     have ob:=findX_some hx
     obtain⟨h1,h2⟩:=ob
     exact absurd (by rw[hc,←h2];exact mem_map_of_mem h1) hn.1
   have hd:delX b.d (c::X)=X:=by
    rw[delX,filter_cons,if_neg (by simpa using hc)]
    exact delX_none hnn
   rw[hd]
  ·rw[if_neg hc]
   have hx:(findX b.d X).isSome=true:=by
    rw[findX,List.find?_cons] at h
    simp only[hc,decide_false] at h
    exact h
   have hd:delX b.d (c::X)=c::delX b.d X:=by
    rw[delX,filter_cons,if_pos (by simpa using hc)]
    rfl
   rw[hd]
   exact((upX_perm hn.2 hx).cons c).trans (List.Perm.swap _ _ _)
theorem View.put (h:View D M X) (hn:(X.map (·.d)).Nodup){b:Blb}{v:Value} (hv:Held D v b.x) (clock:Nat):∃X',View D (putM b.d (.agg #[v,.int .i64 (b.st:Nat)]) clock M) X'∧X'.Perm (b::delX b.d X):=by
 have hf:=h.find b.d
 rw[putM]
 cases hx:findX b.d X with
 | none=>
  rw[hx] at hf
  simp only at hf
  rw[hf]
  refine⟨X++[b],h.append (.cons ⟨rfl,v,rfl,hv⟩ .nil),?_⟩
  rw[delX_none hx]
  exact perm_append_comm (l₂:=[b])
 | some c=>
  rw[hx] at hf
  obtain⟨i,u,hf,_⟩:=hf
  rw[hf]
  exact⟨upX b X,h.upd hv,upX_perm hn (by rw[hx];rfl)⟩
theorem View.del (h:View D M X) (hn:(X.map (·.d)).Nodup) (d:List UInt8):View D (delM d M) (delX d X):=by
 induction h with
 | nil=>exact .nil
 | @cons p c M X h hM ih=>
  rw[map_cons,nodup_cons] at hn
  rw[delM]
  by_cases hc:c.d=d
  ·have hnn:findX d X=none:=by
    cases hx:findX d X with
    | none=>rfl
    | some e=>
     have ob:=findX_some hx
     obtain⟨h1,h2⟩:=ob
     exact absurd (by rw[hc,←h2];exact mem_map_of_mem h1) hn.1
   have hd:delX d (c::X)=X:=by
    rw[delX,filter_cons,if_neg (by simpa using hc)]
    exact delX_none hnn
   rw[hd,if_pos (by rw[h.1];exact hc.symm)]
   exact hM
  ·have hd:delX d (c::X)=c::delX d X:=by
    rw[delX,filter_cons,if_pos (by simpa using hc)]
    rfl
   rw[hd,if_neg (by rw[h.1];exact fun e=>hc e.symm)]
   exact .cons h (ih hn.2)
end
theorem Born.put{M:List MEnt}{clock:Nat} (h:Born M clock) (d:List UInt8) (v:Value):Born (putM d v clock M) (putC d clock M):=by
 rw[putM,putC]
 cases hf:(findD d M 0).isSome with
 | true=>
  simp only[if_true]
  have e:∀(M:List MEnt),(updD d v M).map (fun p=>p.2.2)=M.map (fun p=>p.2.2):=by
   intro M
   induction M with
   | nil=>rfl
   | cons p M ih=>
    rw[updD]
    split
    ·rfl
    ·rw[map_cons,map_cons,ih]
  refine⟨fun p hp=>?_,by rw[e];exact h.nodup⟩
  have:p.2.2∈(updD d v M).map (fun p=>p.2.2):=mem_map.2 ⟨p,hp,rfl⟩
  rw[e] at this
  have ob:=mem_map.1 this
  obtain⟨q,hq,hqe⟩:=ob
  rw[←hqe];exact h.lt q hq
 | false=>
  simp only[Bool.false_eq_true,if_false]
  refine⟨fun p hp=>?_,?_⟩
  ·rcases mem_append.1 hp with hp | hp
   ·have:=h.lt p hp;omega
   ·rw[mem_singleton.1 hp];simp
  ·rw[map_append,nodup_append]
   refine⟨h.nodup,by simp,fun a ha b hb=>?_⟩
   have ob:=mem_map.1 ha
   obtain⟨q,hq,rfl⟩:=ob
   have:=h.lt q hq
   simp at hb
   omega
theorem Born.del{M:List MEnt}{clock:Nat} (h:Born M clock) (d:List UInt8):Born (delM d M) clock:=by
 have hsub:∀(M:List MEnt),(delM d M).Sublist M:=by
  intro M
  induction M with
  | nil=>exact List.Sublist.refl _
  | cons p M ih=>
   rw[delM]
   split
   ·exact sublist_cons_self _ _
   ·exact ih.cons_cons p
 exact⟨fun p hp=>h.lt p ((hsub M).subset hp),h.nodup.sublist ((hsub M).map _)⟩
def PRep (bs:Nat) (s:AS) (D L:List (Nat×Obj)):Prop:=
 ∃m clock M X',L=[(bs,blk 140 (stC s.k s.cap (usedX s.X) s.last m s.gets s.puts)),(m,mapObj M clock)]∧View D M X'∧X'.Perm s.X∧Born M clock
theorem PRep.mono{bs:Nat}{s:AS}{D D' L:List (Nat×Obj)} (h:PRep bs s D L) (hD:∀p∈D,p∈D'):PRep bs s D' L:=by
 obtain⟨m,clock,M,X',h1,h2,h3,h4⟩:=h
 exact⟨m,clock,M,X',h1,h2.mono hD,h3,h4⟩
def Lives (L:List (Nat×Obj)) (w:World):Prop:=Step (L.map (·.1)) L w w
theorem Lives.has{L:List (Nat×Obj)}{w:World} (h:Lives L w):∀p∈L,w.heap[p.1]?=some p.2:=Step.has h
theorem Lives.of{S:List Nat}{L1 L2:List (Nat×Obj)}{w w0:World} (h:Step S (L1++L2) w0 w):Lives L1 w:=Step.own h
theorem Lives.left{L1 L2:List (Nat×Obj)}{w:World} (h:Lives (L1++L2) w):Lives L1 w:=Step.own h
structure Open' (bs:Nat) (s:AS) (D L:List (Nat×Obj)) (w:World) (m clock:Nat) (M:List MEnt) (X':List Blb):Prop where
 L:L=[(bs,blk 140 (stC s.k s.cap (usedX s.X) s.last m s.gets s.puts)),(m,mapObj M clock)]
 view:View D M X'
 perm:X'.Perm s.X
 born:Born M clock
 ne:bs≠m
 hb:w.heap[bs]?=some (blk 140 (stC s.k s.cap (usedX s.X) s.last m s.gets s.puts))
 hm:w.heap[m]?=some (mapObj M clock)
 out:∀p∈D,p.1∉[bs,m]
 dat:∀p∈D,w.heap[p.1]?=some p.2
 nodup:(X'.map (·.d)).Nodup
 keys:Keys32 M
theorem PRep.open{bs:Nat}{s:AS}{D L:List (Nat×Obj)}{w:World} (h:PRep bs s D L) (ok:s.Ok) (hw:Lives (L++D) w):∃m clock M X',Open' bs s D L w m clock M X':=by
 obtain⟨m,clock,M,X',rfl,h2,h3,h4⟩:=h
 have hn:=Step.nodup hw
 rw[map_append,nodup_append] at hn
 have hnd:(X'.map (·.d)).Nodup:=(h3.map _).nodup_iff.2 ok.sorted.nodup
 refine⟨m,clock,M,X',rfl,h2,h3,h4,by simpa using hn.1,hw.has (bs,blk 140 (stC s.k s.cap (usedX s.X) s.last m s.gets s.puts)) (by simp),hw.has (m,mapObj M clock) (by simp),fun p hp hb=>hn.2.2 p.1 (by simpa using hb) p.1 (mem_map_of_mem hp) rfl,fun p hp=>hw.has _ (by simp[hp]),hnd,?_⟩
 intro p hp
 have h1:p.1∈M.map (fun p=>p.1):=mem_map.2 ⟨p,hp,rfl⟩
 rw[h2.fst] at h1
 have ob:=mem_map.1 h1
 obtain⟨b,hb,hbe⟩:=ob
 rw[←hbe];exact ok.len b (h3.mem_iff.1 hb)
theorem Open'.look{bs:Nat}{s:AS}{D L:List (Nat×Obj)}{w:World}{m clock:Nat}{M:List MEnt}{X':List Blb} (o:Open' bs s D L w m clock M X') (ok:s.Ok) (d:List UInt8) :
  match findX d s.X with
  | none=>findD d M 0=none
  | some b=>∃i a c,findD d M 0=some (i,.agg #[.slice a b.x.length c,.int .i64 (b.st:Nat)])∧Held D (.slice a b.x.length c) b.x:=by
 have h:=o.view.find d
 rw[findX_perm o.perm ok.sorted.nodup d] at h
 cases hx:findX d s.X with
 | none=>rw[hx] at h;exact h
 | some b=>
  rw[hx] at h
  obtain⟨i,v,h1,h2⟩:=h
  have ob:=h2.form
  obtain⟨a,c,rfl⟩:=ob
  exact⟨i,a,c,h1,h2⟩
section
variable{bs:Nat}{s:AS}{D L:List (Nat×Obj)}{w0:World}{d y:List UInt8}{v:Value}{n:Nat}
theorem Lives.step0{L:List (Nat×Obj)}{w w':World} (h:Lives L w) (hs:Step [] [] w w'):Step (L.map (·.1)) L w w':=by
 have:=Step.call0 (L:=L) h hs
 simpa using this
theorem used_small (ok:s.Ok){b:Blb} (hb:findX d s.X=some b):b.x.length<1099511627776:=by
 have:=used_mem (findX_some hb).1
 have:=ok.used
 omega
theorem width_abs (hR:PRep bs s D L) (ok:s.Ok) (hw:Lives (L++D) w0):CP 69 #[.pointer (some ⟨bs,0,none⟩)] w0 (Ret0 (.int .i64 (s.k:Nat)) w0):=by
 have ob:=hR.open ok hw
 obtain⟨m,clock,M,X',o⟩:=ob
 exact width_spec w0 o.hb
theorem cap_abs (hR:PRep bs s D L) (ok:s.Ok) (hw:Lives (L++D) w0):CP 68 #[.pointer (some ⟨bs,0,none⟩)] w0 (Ret0 (.int .i64 (s.cap:Nat)) w0):=by
 have ob:=hR.open ok hw
 obtain⟨m,clock,M,X',o⟩:=ob
 exact cap_spec w0 o.hb
theorem used_abs (hR:PRep bs s D L) (ok:s.Ok) (hw:Lives (L++D) w0):CP 55 #[.pointer (some ⟨bs,0,none⟩)] w0 (Ret0 (.int .i64 (usedX s.X:Nat)) w0):=by
 have ob:=hR.open ok hw
 obtain⟨m,clock,M,X',o⟩:=ob
 exact used_spec w0 o.hb
theorem len_abs (hR:PRep bs s D L) (ok:s.Ok) (hw:Lives (L++D) w0):CP 29 #[.pointer (some ⟨bs,0,none⟩)] w0 (Ret0 (.int .i64 (s.X.length:Nat)) w0):=by
 have ob:=hR.open ok hw
 obtain⟨m,clock,M,X',o⟩:=ob
 have:=len_spec w0 o.hb o.hm
 rwa [o.view.length,o.perm.length_eq] at this
theorem digest_abs (hR:PRep bs s D L) (ok:s.Ok) (hw:Lives (L++D) w0) (hy:Sl w0 1 v y.length (u8s y)) (hr:Room v) (hsy:y.length<1099511627776):CP 91 #[.pointer (some ⟨bs,0,none⟩),v] w0 (Ret0 (.agg (u8s (frontL y s.k)).toArray) w0):=by
 have ob:=hR.open ok hw
 obtain⟨m,clock,M,X',o⟩:=ob
 exact digest_spec w0 (by rw[cell_blk o.hb];rfl) hy hr hsy ok.k1 ok.k2
theorem has_abs (hR:PRep bs s D L) (ok:s.Ok) (hw:Lives (L++D) w0) (hd:d.length=32):CP 122 #[.pointer (some ⟨bs,0,none⟩),.agg (u8s d).toArray] w0 (Ret0 (.bool (s.has d)) w0):=by
 have ob:=hR.open ok hw
 obtain⟨m,clock,M,X',o⟩:=ob
 have hl:=o.look ok d
 unfold AS.has
 cases hx:findX d s.X with
 | none=>rw[hx] at hl;exact has_spec (st:=0) (n:=0) (c:=0) (a:=none) w0 o.hb o.hm o.keys hd (by rw[hl];rfl) (by rw[hl];rfl)
 | some b=>rw[hx] at hl;obtain⟨i,a,c,h1,h2⟩:=hl;exact has_spec w0 o.hb o.hm o.keys hd (by rw[h1];rfl) (by rw[h1];rfl)
theorem stamp_abs (hR:PRep bs s D L) (ok:s.Ok) (hw:Lives (L++D) w0) (hd:d.length=32):CP 50 #[.pointer (some ⟨bs,0,none⟩),.agg (u8s d).toArray] w0 (Ret0 (.int .i64 (s.stamp d:Nat)) w0):=by
 have ob:=hR.open ok hw
 obtain⟨m,clock,M,X',o⟩:=ob
 have hl:=o.look ok d
 unfold AS.stamp
 cases hx:findX d s.X with
 | none=>rw[hx] at hl;exact stamp_spec (st:=0) (n:=0) (c:=0) (a:=none) w0 o.hb o.hm o.keys hd (by rw[hl];rfl)
 | some b=>rw[hx] at hl;obtain⟨i,a,c,h1,h2⟩:=hl;exact stamp_spec w0 o.hb o.hm o.keys hd (by rw[h1];rfl)
theorem get_abs (hR:PRep bs s D L) (ok:s.Ok) (hfew:s.Few n) (hn:n<1099511627776) (hw:Lives (L++D) w0) (hd:d.length=32):CP 76 #[.pointer (some ⟨bs,0,none⟩),.agg (u8s d).toArray] w0 fun e w'=>∃v' Lv L',e=.returned (.tuple #[v',.int .i64 ((s.get d).2:Nat)])∧OwnSl 5 1 v' (s.get d).1.length (u8s (s.get d).1) Lv∧PRep bs s.got D L'∧Step (L.map (·.1)) (L'++Lv) w0 w':=by
 have ob:=hR.open ok hw
 obtain⟨m,clock,M,X',o⟩:=ob
 have hl:=o.look ok d
 have hg:=hfew.gets
 have hP:PRep bs s.got D [(bs,blk 140 (stC s.k s.cap (usedX s.X) s.last m (s.gets+1) s.puts)),(m,mapObj M clock)]:=⟨m,clock,M,X',rfl,o.view,o.perm,o.born⟩
 rw[o.L]
 unfold AS.get
 cases hx:findX d s.X with
 | none=>
  rw[hx] at hl
  refine(get_missing o.ne w0 o.hb o.hm hd (by omega) o.keys hl).mono fun e w' ⟨h1,h2⟩=>?_
  exact⟨_,[],_,h1,OwnSl.nil _ _,hP,by simpa using h2⟩
 | some b=>
  rw[hx] at hl
  obtain⟨i,a,c,h1,h2⟩:=hl
  by_cases hk:frontL b.x s.k=d
  ·simp only[hk,if_true]
   refine(get_ok o.ne w0 o.hb o.hm hd (by omega) o.keys (by rw[h1];rfl) (by rw[h1];rfl) (h2.sl o.dat) (h2.out o.out) h2.room (used_small ok hx) ok.k1 ok.k2 hk).mono fun e w' ⟨v',Lv,h3,h4,h5⟩=>?_
   exact⟨v',Lv,_,h3,h4,hP,h5⟩
  ·simp only[hk,if_false]
   refine(get_corrupt o.ne w0 o.hb o.hm hd (by omega) o.keys (by rw[h1];rfl) (by rw[h1];rfl) (h2.sl o.dat) (h2.out o.out) h2.room (used_small ok hx) ok.k1 ok.k2 hk).mono fun e w' ⟨h3,h4⟩=>?_
   exact⟨_,[],_,h3,OwnSl.nil _ _,hP,by simpa using h4⟩
theorem evict_abs (hR:PRep bs s D L) (ok:s.Ok) (hw:Lives (L++D) w0) (hd:d.length=32):CP 34 #[.pointer (some ⟨bs,0,none⟩),.agg (u8s d).toArray] w0 fun e w'=>∃L',e=.returned (.bool (s.has d))∧PRep bs (s.evict d) D L'∧Step (L.map (·.1)) L' w0 w':=by
 have ob:=hR.open ok hw
 obtain⟨m,clock,M,X',o⟩:=ob
 have hl:=o.look ok d
 unfold AS.has
 cases hx:findX d s.X with
 | none=>
  rw[hx] at hl
  refine(evict_no w0 o.hb o.hm o.keys hd hl).mono fun e w' ⟨h1,h2⟩=>?_
  have e1:s.evict d=s:=by unfold AS.evict;rw[delX_none hx]
  exact⟨L,h1,by rw[e1];exact hR,(Lives.left hw).step0 h2⟩
 | some b=>
  rw[hx] at hl
  obtain⟨i,a,c,h1,h2⟩:=hl
  have hu:=used_del ok.sorted d
  rw[hx] at hu
  simp only at hu
  have hok:=ok.used
  rw[o.L]
  refine(evict_yes o.ne w0 o.hb o.hm o.keys hd h1 (h2.sl o.dat) (used_small ok hx) (by omega) (by omega) (h2.out o.out)).mono fun e w' ⟨h3,h4⟩=>?_
  have e1:usedX s.X - (b.x.length+32)=usedX (delX d s.X):=by omega
  rw[e1] at h4
  exact⟨_,h3,⟨m,clock,delM d M,delX d X',rfl,o.view.del o.nodup d,delX_perm o.perm d,o.born.del d⟩,h4⟩
end
section
variable{bs:Nat}{s:AS}{D L:List (Nat×Obj)}{w0:World}{d y:List UInt8}{v:Value}{n:Nat}
theorem laid_rep{m clock puts:Nat}{M:List MEnt}{X':List Blb}{v':Value}{Lv:List (Nat×Obj)} (hv:View D M X') (hp:X'.Perm s.X) (hB:Born M clock) (hs:SortedX s.X) (hO:OwnSl 5 1 v' y.length (u8s y) Lv) :
  PRep bs { s with last:=s.last+1,puts:=puts,X:=insX ⟨d,y,s.last+1⟩ s.X } (Lv++D)
   [(bs,blk 140 (stC s.k s.cap (usedX (insX ⟨d,y,s.last+1⟩ s.X)) (s.last+1) m s.gets puts)),(m,mapObj (putM d (.agg #[v',.int .i64 (s.last+1:Nat)]) clock M) (putC d clock M))]:=by
 have hn:(X'.map (·.d)).Nodup:=(hp.map _).nodup_iff.2 hs.nodup
 have ob:=(hv.mono (D':=Lv++D) (fun p hp=>mem_append_right _ hp)).put (b:=⟨d,y,s.last+1⟩) hn ⟨Lv,hO,fun p hp=>mem_append_left _ hp⟩ clock
 obtain⟨X2,h1,h2⟩:=ob
 exact⟨m,_,_,X2,rfl,h1,h2.trans (((delX_perm hp d).cons _).trans (insX_perm _ hs).symm),hB.put d _⟩
theorem put_abs (hR:PRep bs s D L) (ok:s.Ok) (hfew:s.Few n) (hn:n<1099511627776) (hw:Lives (L++D) w0) (hy:Sl w0 1 v y.length (u8s y)) (hr:Room v) (hO:OutE v y (L.map (·.1))) (hsy:y.length<1099511627776) :
  CP 36 #[.pointer (some ⟨bs,0,none⟩),v] w0 fun e w'=>∃L' D',e=.returned (.tuple #[.agg (u8s (s.put y).1).toArray,.int .i64 ((s.put y).2.1:Nat)])∧PRep bs (s.put y).2.2 (D'++D) L'∧Step (L.map (·.1)) (L'++D') w0 w':=by
 have ob:=hR.open ok hw
 obtain⟨m,clock,M,X',o⟩:=ob
 rw[o.L] at hO⊢
 replace hO:OutE v y [bs,m]:=hO
 have hp:=hfew.puts
 have hla:=hfew.last
 have hfl:=frontL_len (x:=y) ok.k2
 have hl:=o.look ok (frontL y s.k)
 have hu:=used_ins ok.sorted ⟨frontL y s.k,y,s.last+1⟩
 simp only at hu
 have huse:=ok.used
 have hstay:∀(r:Value) (e:Ending) (w':World),(e=.returned r∧Step [bs,m] [(bs,blk 140 (stC s.k s.cap (usedX s.X) s.last m s.gets (s.puts+1))),(m,mapObj M clock)] w0 w')→∃L' D',e=.returned r∧PRep bs { s with puts:=s.puts+1 } (D'++D) L'∧Step ([(bs,blk 140 (stC s.k s.cap (usedX s.X) s.last m s.gets s.puts)),(m,mapObj M clock)].map (·.1)) (L'++D') w0 w':=by
  rintro r e w' ⟨h1,h2⟩
  exact⟨_,[],h1,⟨m,clock,M,X',rfl,o.view,o.perm,o.born⟩,by simpa using h2⟩
 unfold AS.put
 simp only
 by_cases hlong:1048576<y.length
 ·rw[if_pos hlong]
  exact(put_long o.ne w0 o.hb o.hm hy (by omega) hlong).mono (hstay _)
 ·rw[if_neg hlong]
  cases hx:findX (frontL y s.k) s.X with
  | none=>
   rw[hx] at hl hu
   simp only at hl hu⊢
   unfold AS.lay
   simp only
   by_cases hc:usedX (insX ⟨frontL y s.k,y,s.last+1⟩ s.X)≤s.cap
   ·rw[if_pos hc]
    simp only
    refine(put_ok (x:=[]) (a:=none) (c:=0) (st:=0) (b:=false) o.ne w0 o.hb o.hm o.keys (by rw[hl];rfl) (by rw[hl];rfl) (Sl.nil _ _ _) trivial (Nat.le_refl _) (by simp) hy hO hr (by omega) hsy (by omega) ok.k1 ok.k2 (fun h=>by cases h) (by omega) (by omega) (fun h=>by cases h) (fun h=>by cases h) (fun _=>rfl) (by omega)).mono fun e w' ⟨v',Lv,h1,h2,h3⟩=>?_
    rw[show usedX s.X+(y.length+32)=usedX (insX ⟨frontL y s.k,y,s.last+1⟩ s.X) by omega] at h3
    exact⟨_,Lv,h1,laid_rep o.view o.perm o.born ok.sorted h2,h3⟩
   ·rw[if_neg hc]
    simp only
    exact(put_full (x:=[]) (a:=none) (c:=0) (st:=0) (b:=false) o.ne w0 o.hb o.hm o.keys (by rw[hl];rfl) (by rw[hl];rfl) (Sl.nil _ _ _) trivial (Nat.le_refl _) (by simp) hy hO hr (by omega) hsy (by omega) ok.k1 ok.k2 (fun h=>by cases h) (by omega) (fun h=>by cases h) (fun h=>by cases h) (fun _=>by omega)).mono (hstay _)
  | some b=>
   rw[hx] at hl hu
   simp only at hu⊢
   obtain⟨i,a,c,h1,h2⟩:=hl
   have hub:=used_mem (findX_some hx).1
   by_cases hxy:b.x=y
   ·rw[if_pos hxy]
    exact(put_same o.ne w0 o.hb o.hm o.keys (by rw[h1];rfl) (by rw[h1];rfl) (h2.sl o.dat) (h2.out o.out) hy hO hr (by omega) hsy (by omega) ok.k1 ok.k2 hxy).mono (hstay _)
   ·rw[if_neg hxy]
    by_cases hcl:frontL b.x s.k=frontL y s.k
    ·rw[if_pos hcl]
     exact(put_clash o.ne w0 o.hb o.hm o.keys (by rw[h1];rfl) (by rw[h1];rfl) (h2.sl o.dat) (h2.out o.out) h2.room (by omega) hy hO hr (by omega) hsy (by omega) ok.k1 ok.k2 hxy hcl).mono (hstay _)
    ·rw[if_neg hcl]
     unfold AS.lay
     simp only
     by_cases hc:usedX (insX ⟨frontL y s.k,y,s.last+1⟩ s.X)≤s.cap
     ·rw[if_pos hc]
      simp only
      refine(put_ok (b:=true) o.ne w0 o.hb o.hm o.keys (by rw[h1];rfl) (by rw[h1];rfl) (h2.sl o.dat) (h2.out o.out) h2.room (by omega) hy hO hr (by omega) hsy (by omega) ok.k1 ok.k2 (fun _=>⟨hxy,hcl⟩) (by omega) (by omega) (fun _=>hub) (fun _=>rfl) (fun h=>by cases h) (by omega)).mono fun e w' ⟨v',Lv,h3,h4,h5⟩=>?_
      rw[show usedX s.X+(y.length+32) - (b.x.length+32)=usedX (insX ⟨frontL y s.k,y,s.last+1⟩ s.X) by omega] at h5
      exact⟨_,Lv,h3,laid_rep o.view o.perm o.born ok.sorted h4,h5⟩
     ·rw[if_neg hc]
      simp only
      exact(put_full (b:=true) o.ne w0 o.hb o.hm o.keys (by rw[h1];rfl) (by rw[h1];rfl) (h2.sl o.dat) (h2.out o.out) h2.room (by omega) hy hO hr (by omega) hsy (by omega) ok.k1 ok.k2 (fun _=>⟨hxy,hcl⟩) (by omega) (fun _=>hub) (fun _=>by omega) (fun h=>by cases h)).mono (hstay _)
theorem plant_abs (hR:PRep bs s D L) (ok:s.Ok) (hfew:s.Few n) (hn:n<1099511627776) (hw:Lives (L++D) w0) (hd:d.length=32) (hy:Sl w0 1 v y.length (u8s y)) (hO:OutE v y (L.map (·.1))) (hsy:y.length<1099511627776) :
  CP 35 #[.pointer (some ⟨bs,0,none⟩),.agg (u8s d).toArray,v] w0 fun e w'=>∃L' D',e=.returned (.int .i64 ((s.plant d y).1:Nat))∧PRep bs (s.plant d y).2 (D'++D) L'∧Step (L.map (·.1)) (L'++D') w0 w':=by
 have ob:=hR.open ok hw
 obtain⟨m,clock,M,X',o⟩:=ob
 rw[o.L] at hO⊢
 replace hO:OutE v y [bs,m]:=hO
 have hla:=hfew.last
 have hl:=o.look ok d
 have hu:=used_ins ok.sorted ⟨d,y,s.last+1⟩
 simp only at hu
 have huse:=ok.used
 have hP:∀w',Step [bs,m] [(bs,blk 140 (stC s.k s.cap (usedX s.X) s.last m s.gets s.puts)),(m,mapObj M clock)] w0 w'→∃L' D',PRep bs s (D'++D) L'∧Step [bs,m] (L'++D') w0 w':=fun w' h2=>⟨_,[],⟨m,clock,M,X',rfl,o.view,o.perm,o.born⟩,by simpa using h2⟩
 have hlv:=hw
 rw[o.L] at hlv
 have hstay0:∀w',Step [] [] w0 w'→∃L' D',PRep bs s (D'++D) L'∧Step [bs,m] (L'++D') w0 w':=fun w' h2=>hP w' ((Lives.left hlv).step0 h2)
 unfold AS.plant
 by_cases hf:fitsL d s.k=false
 ·rw[if_pos hf]
  refine(plant_arg w0 o.hb hd ok.k1 ok.k2 hf).mono fun e w' ⟨h1,h2⟩=>?_
  have ob:=hstay0 w' h2
  obtain⟨L',D',h3,h4⟩:=ob
  exact⟨L',D',h1,h3,h4⟩
 ·rw[if_neg hf]
  replace hf:fitsL d s.k=true:=by simpa using hf
  by_cases hlong:1048576<y.length
  ·rw[if_pos hlong]
   refine(plant_long o.ne w0 o.hb o.hm hd hf hy hsy hlong).mono fun e w' ⟨h1,h2⟩=>?_
   have ob:=hstay0 w' h2
   obtain⟨L',D',h3,h4⟩:=ob
   exact⟨L',D',h1,h3,h4⟩
  ·rw[if_neg hlong]
   unfold AS.lay
   cases hx:findX d s.X with
   | none=>
    rw[hx] at hl hu
    simp only at hl hu
    by_cases hc:usedX (insX ⟨d,y,s.last+1⟩ s.X)≤s.cap
    ·rw[if_pos hc]
     simp only
     refine(plant_ok (x:=[]) (a:=none) (n:=0) (c:=0) (st:=0) (b:=false) o.ne w0 o.hb o.hm hd hf o.keys (by rw[hl];rfl) (by rw[hl];rfl) hy hO hsy (by omega) (by simp) (by omega) (by omega) (fun h=>by cases h) (fun h=>by cases h) (fun _=>rfl) (by omega)).mono fun e w' ⟨v',Lv,h1,h2,h3⟩=>?_
     rw[show usedX s.X+(y.length+32)=usedX (insX ⟨d,y,s.last+1⟩ s.X) by omega] at h3
     exact⟨_,Lv,h1,laid_rep o.view o.perm o.born ok.sorted h2,h3⟩
    ·rw[if_neg hc]
     simp only
     refine(plant_full (x:=[]) (a:=none) (n:=0) (c:=0) (st:=0) (b:=false) o.ne w0 o.hb o.hm hd hf o.keys (by rw[hl];rfl) (by rw[hl];rfl) hy hO hsy (by omega) (by simp) (by omega) (fun h=>by cases h) (fun h=>by cases h) (fun _=>by omega)).mono fun e w' ⟨h1,h2⟩=>?_
     have ob:=hP w' h2
     obtain⟨L',D',h3,h4⟩:=ob
     exact⟨L',D',h1,h3,h4⟩
   | some b=>
    rw[hx] at hl hu
    simp only at hu
    obtain⟨i,a,c,h1,h2⟩:=hl
    have hub:=used_mem (findX_some hx).1
    by_cases hc:usedX (insX ⟨d,y,s.last+1⟩ s.X)≤s.cap
    ·rw[if_pos hc]
     simp only
     refine(plant_ok (x:=[]) (b:=true) o.ne w0 o.hb o.hm hd hf o.keys (by rw[h1];rfl) (by rw[h1];rfl) hy hO hsy (by omega) (by omega) (by omega) (by omega) (fun _=>hub) (fun _=>rfl) (fun h=>by cases h) (by omega)).mono fun e w' ⟨v',Lv,h3,h4,h5⟩=>?_
     rw[show usedX s.X+(y.length+32) - (b.x.length+32)=usedX (insX ⟨d,y,s.last+1⟩ s.X) by omega] at h5
     exact⟨_,Lv,h3,laid_rep o.view o.perm o.born ok.sorted h4,h5⟩
    ·rw[if_neg hc]
     simp only
     refine(plant_full (x:=[]) (b:=true) o.ne w0 o.hb o.hm hd hf o.keys (by rw[h1];rfl) (by rw[h1];rfl) hy hO hsy (by omega) (by omega) (by omega) (fun _=>hub) (fun _=>by omega) (fun h=>by cases h)).mono fun e w' ⟨h3,h4⟩=>?_
     have ob:=hP w' h4
     obtain⟨L',D',h5,h6⟩:=ob
     exact⟨L',D',h3,h5,h6⟩
def newS (k c:Nat):AS:=⟨k,c,0,0,0,[]⟩
theorem newS_ok{k c:Nat} (hk1:1≤k) (hk:k≤32) (hc:c≤67108864):(newS k c).Ok:=⟨hk1,hk,hc,List.Pairwise.nil,fun b hb=>(by cases hb),(by simp[newS,usedX])⟩
theorem newS_few{k c:Nat}:(newS k c).Few 0:=⟨Nat.le_refl _,Nat.le_refl _,Nat.le_refl _⟩
theorem new_abs{k c:Nat} (hk1:1≤k) (hk:k≤32) (hc:c≤67108864) (w:World):CP 56 #[.int .i64 k,.int .i64 c] w fun e w'=>∃bs L',e=.returned (.tuple #[.pointer (some ⟨bs,0,none⟩),.int .i64 0])∧PRep bs (newS k c) [] L'∧Step [] L' w w':=
 (new_ok hk1 hk hc w).mono fun e w' ⟨bs,m,h1,h2⟩=>⟨bs,_,h1,⟨m,0,[],[],rfl,.nil,List.Perm.refl _,⟨fun p hp=>(by cases hp),(by simp)⟩⟩,h2⟩
end
def posX (d:List UInt8):List Blb→Nat
 | []=>0
 | b::X=>if ltD b.d d=true then posX d X+1 else 0
theorem posX_le (d:List UInt8):∀X,posX d X≤X.length
 | []=>Nat.le_refl _
 | b::X=>by
  rw[posX]
  split
  ·have:=posX_le d X;simp only[length_cons];omega
  ·exact Nat.zero_le _
theorem posX_drop (d:List UInt8):∀(X:List Blb) (i:Nat),i≤X.length→(∀j b,j<i→X[j]?=some b→ltD b.d d=true)→posX d X=i+posX d (X.drop i)
 | X,0,_,_=>by simp
 | [],i+1,h,_=>by simp at h
 | b::X,i+1,h,hl=>by
  rw[posX,if_pos (hl 0 b (by omega) rfl),posX_drop d X i (by simpa using h) (fun j c hj hc=>hl (j+1) c (by omega) (by simpa using hc))]
  simp only[drop_succ_cons]
  omega
theorem posX_at{d:List UInt8}{X:List Blb}{i:Nat}{b:Blb} (h:X[i]?=some b) (hl:ltD b.d d=false):posX d (X.drop i)=0:=by
 have ob:=List.getElem?_eq_some_iff.1 h
 obtain⟨hlt,rfl⟩:=ob
 rw[drop_eq_getElem_cons hlt,posX,if_neg (by rw[hl];simp)]
theorem pos_find{d:List UInt8}:∀{X:List Blb},SortedX X→(X[posX d X]?).bind (fun b=>if b.d=d then some b else none)=findX d X
 | [],_=>rfl
 | b::X,h=>by
  rw[SortedX,pairwise_cons] at h
  rw[posX,findX,List.find?_cons]
  by_cases hl:ltD b.d d=true
  ·rw[if_pos hl,getElem?_cons_succ,pos_find h.2]
   have:b.d≠d:=ltD_ne hl
   simp only[this,decide_false]
   rfl
  ·rw[if_neg hl]
   simp only[getElem?_cons_zero,Option.bind_some]
   by_cases he:b.d=d
   ·simp[he]
   ·simp only[he,if_false,decide_false]
    have hlt:ltD d b.d=true:=by
     cases h2:ltD d b.d with
     | true=>rfl
     | false=>exact absurd (ltD_tri _ _ (by simpa using hl) h2) he
    symm
    rw[List.find?_eq_none]
    intro c hc
    have:=ltD_trans _ _ _ hlt (h.1 c hc)
    simpa using(ltD_ne this).symm
theorem pos_some{d:List UInt8}{X:List Blb} (h:SortedX X){c:Blb} (hf:findX d X=some c):X[posX d X]?=some c∧c.d=d:=by
 have h1:=pos_find (d:=d) h
 rw[hf] at h1
 cases hx:X[posX d X]? with
 | none=>rw[hx] at h1;cases h1
 | some b=>
  rw[hx] at h1
  simp only[Option.bind_some] at h1
  split at h1
  ·rename_i he
   obtain rfl:=Option.some.inj h1
   exact⟨rfl,he⟩
  ·cases h1
theorem ins_there{b:Blb}:∀{X:List Blb},SortedX X→(findX b.d X).isSome=true→insX b X=X.set (posX b.d X) b
 | [],_,h=>by cases h
 | c::X,h,hf=>by
  rw[SortedX,pairwise_cons] at h
  rw[insX,posX]
  by_cases hc:c.d=b.d
  ·rw[if_pos hc,if_neg (by rw[hc,ltD_irrefl];simp)]
   rfl
  ·rw[if_neg hc]
   rw[findX,List.find?_cons] at hf
   simp only[hc,decide_false] at hf
   by_cases hl:ltD b.d c.d=true
   ·exfalso
    have ob:=Option.isSome_iff_exists.1 hf
    obtain⟨e,he⟩:=ob
    have hm:=mem_of_find?_eq_some he
    have h1:=List.find?_some he
    have:=ltD_ne (ltD_trans _ _ _ hl (h.1 e hm))
    simp at h1
    exact this h1.symm
   ·rw[if_neg hl]
    have hcb:ltD c.d b.d=true:=by
     cases h2:ltD c.d b.d with
     | true=>rfl
     | false=>exact absurd (ltD_tri _ _ h2 (by simpa using hl)) hc
    rw[if_pos hcb,ins_there h.2 hf]
    rfl
theorem ins_new{b:Blb}:∀{X:List Blb},SortedX X→findX b.d X=none→insX b X=X.take (posX b.d X)++b::X.drop (posX b.d X)
 | [],_,_=>rfl
 | c::X,h,hf=>by
  rw[SortedX,pairwise_cons] at h
  rw[insX,posX]
  by_cases hc:c.d=b.d
  ·rw[findX,List.find?_cons] at hf
   simp[hc] at hf
  ·rw[if_neg hc]
   rw[findX,List.find?_cons] at hf
   simp only[hc,decide_false] at hf
   by_cases hl:ltD b.d c.d=true
   ·rw[if_pos hl,if_neg (by rw[ltD_asymm hl];simp)]
    rfl
   ·rw[if_neg hl]
    have hcb:ltD c.d b.d=true:=by
     cases h2:ltD c.d b.d with
     | true=>rfl
     | false=>exact absurd (ltD_tri _ _ h2 (by simpa using hl)) hc
    rw[if_pos hcb,ins_new h.2 hf]
    rfl
theorem del_pos{d:List UInt8}:∀{X:List Blb},SortedX X→(findX d X).isSome=true→delX d X=X.take (posX d X)++X.drop (posX d X+1)
 | [],_,h=>by cases h
 | c::X,h,hf=>by
  rw[SortedX,pairwise_cons] at h
  rw[posX]
  by_cases hc:c.d=d
  ·have hd:delX d (c::X)=X:=by
    rw[delX,filter_cons,if_neg (by simpa using hc),filter_eq_self]
    intro e he
    have:=h.1 e he
    rw[hc] at this
    simpa using(ltD_ne this).symm
   rw[hd,if_neg (by rw[hc,ltD_irrefl];simp)]
   rfl
  ·rw[findX,List.find?_cons] at hf
   simp only[hc,decide_false] at hf
   have hd:delX d (c::X)=c::delX d X:=by
    rw[delX,filter_cons,if_pos (by simpa using hc)]
    rfl
   have hl:ltD c.d d=true:=by
    have ob:=Option.isSome_iff_exists.1 hf
    obtain⟨e,he⟩:=ob
    have hm:=mem_of_find?_eq_some he
    have h1:=List.find?_some he
    simp at h1
    rw[←h1];exact h.1 e hm
   rw[hd,if_pos hl,del_pos h.2 hf]
   rfl
theorem rless_spec{x y:List UInt8} (hx:x.length=32) (hy:y.length=32) (w0:World):CP 157 #[.agg (u8s x).toArray,.agg (u8s y).toArray] w0 (Ret0 (.bool (ltD x y)) w0):=by
 have hs:Step [] [] w0 w0:=Step.refl w0
 have hxl:(u8s x).length=32:=by rw[u8s,length_map,hx]
 have hyl:(u8s y).length=32:=by rw[u8s,length_map,hy]
 have hdrop:∀(i:Nat) (x y:List UInt8),i≤x.length→i≤y.length→(∀j,j<i→x[j]?=y[j]?)→ltD x y=ltD (x.drop i) (y.drop i):=by
  intro i
  induction i with
  | zero=>intro x y _ _ _;rfl
  | succ i ih=>
   intro x y h1 h2 h3
   match x,y,h1,h2 with
   | a::x,b::y,h1,h2=>
    have h0:=h3 0 (by omega)
    simp only[getElem?_cons_zero,Option.some.injEq] at h0
    subst h0
    rw[ltD,if_neg (by rw[UInt8.lt_iff_toNat_lt];omega),if_neg (by rw[UInt8.lt_iff_toNat_lt];omega),drop_succ_cons,drop_succ_cons]
    exact ih x y (by simpa using h1) (by simpa using h2) (fun j hj=>by have:=h3 (j+1) (by omega);simpa using this)
 refine calls (n:=24) Tryz.func157 rfl rfl rfl ?_
 refine sr<|WL.box (cs:=u8s x) rfl rfl rfl hs (fun b2 w hs=>?_)
 refine WL.box (cs:=u8s y) rfl rfl rfl hs (fun b3 w hs=>?_)
 refine wA<|wZ<|cq<|sr<|wA<|wZ<|cB<|CW.loop (fun m f w'=>∃i,i≤32∧m=32 - i∧(∀j,j<i→x[j]?=y[j]?)∧Step [] [(b3,blk 201 (u8s y)),(b2,blk 201 (u8s x))] w0 w'∧Holds f [(2,.pointer (some ⟨b2,0,none⟩)),(3,.pointer (some ⟨b3,0,none⟩)),(5,.int .i64 (i:Nat))]) (m:=32) ?_ ?_
 ·exact⟨0,by omega,rfl,fun j hj=>by omega,hs,rfl,rfl,rfl,trivial⟩
 ·rintro m f w ⟨i,hi,rfl,heq,hs,hf⟩
  have ob:=hf.chain
  obtain⟨g,rfl⟩:=ob
  by_cases hlt:i<32
  ·have ob:∃a,x[i]?=some a:=⟨_,getElem?_eq_getElem (by omega)⟩
   obtain⟨a,ha⟩:=ob
   have ob:∃b,y[i]?=some b:=⟨_,getElem?_eq_getElem (by omega)⟩
   obtain⟨b,hb⟩:=ob
   have hca:(u8s x)[0+i*1]?=some (.int .u8 a.toNat):=by simp[u8s,ha]
   have hcb:(u8s y)[0+i*1]?=some (.int .u8 b.toNat):=by simp[u8s,hb]
   have e1:=hdrop i x y (by omega) (by omega) heq
   rw[drop_eq_getElem_cons (by omega),drop_eq_getElem_cons (show i<y.length by omega)] at e1
   have hxa:x[i]=a:=(List.getElem?_eq_some_iff.1 ha).2
   have hyb:y[i]=b:=(List.getElem?_eq_some_iff.1 hb).2
   rw[hxa,hyb,ltD] at e1
   by_cases hab:a=b
   ·subst hab
    refine cq<|sr<|wm<|wV (run_bT (run_lss rfl rfl) (by omega))<|wZ<|cT rfl<|ck<|cq<|cB<|cq<|CW.quiet mixedP (by kernel_rfl) hs ?_
    refine qm<|qV (fun w hs=>run_ixArrN u201 ty5 rfl rfl (by omega))<|qV (fun w hs=>run_load1 ty5 rfl (hs.c1 hca))<|qm<|qV (fun w hs=>run_ixArrN u201 ty5 rfl rfl (by omega))<|qV (fun w hs=>run_load1 ty5 rfl (hs.c0 hcb))<|qV (fun w hs=>run_bF (run_neq rfl rfl) (by simp))<|QL.nil (fun w hs=>?_)
    refine CW.cond rfl (fun h=>?_) (fun h=>?_)
    ·cases h
    refine ck<|cr<|wm<|wV (run_add (c:=((i+1:Nat):Int)) rfl rfl (by omega) (by omega))<|wA<|wZ<|(show _∧_ from⟨rfl,_,?_,i+1,by omega,rfl,?_,hs,rfl,rfl,rfl,trivial⟩)
    ·omega
    ·intro j hj
     by_cases hji:j=i
     ·subst hji;rw[ha,hb]
     ·exact heq j (by omega)
   ·have hne:(a.toNat:Int)≠b.toNat:=fun e=>hab (UInt8.toNat_inj.1 (by omega))
    refine cq<|sr<|wm<|wV (run_bT (run_lss rfl rfl) (by omega))<|wZ<|cT rfl<|ck<|cq<|cB<|cq<|CW.quiet mixedP (by kernel_rfl) hs ?_
    refine qm<|qV (fun w hs=>run_ixArrN u201 ty5 rfl rfl (by omega))<|qV (fun w hs=>run_load1 ty5 rfl (hs.c1 hca))<|qm<|qV (fun w hs=>run_ixArrN u201 ty5 rfl rfl (by omega))<|qV (fun w hs=>run_load1 ty5 rfl (hs.c0 hcb))<|qV (fun w hs=>run_bT (run_neq rfl rfl) (by exact hne))<|QL.nil (fun w hs=>?_)
    refine CW.cond rfl (fun h=>?_) (fun h=>?_)
    ·have e2:decide ((a.toNat:Int)<b.toNat)=ltD x y:=by
      rw[e1]
      by_cases h1:a<b
      ·rw[if_pos h1,decide_eq_true];rw[UInt8.lt_iff_toNat_lt] at h1;omega
      ·have h2:b<a:=by rw[UInt8.lt_iff_toNat_lt] at *;omega
       rw[if_neg h1,if_pos h2,decide_eq_false]
       rw[UInt8.lt_iff_toNat_lt] at h1;omega
     refine cq<|CW.quiet mixedP (by kernel_rfl) hs ?_
     refine qm<|qV (fun w hs=>run_ixArrN u201 ty5 rfl rfl (by omega))<|qV (fun w hs=>run_load1 ty5 rfl (hs.c1 hca))<|qm<|qV (fun w hs=>run_ixArrN u201 ty5 rfl rfl (by omega))<|qV (fun w hs=>run_load1 ty5 rfl (hs.c0 hcb))<|qV (fun w hs=>run_lss rfl rfl)<|qV (fun w hs=>run_assign)<|QL.nil (fun w hs=>?_)
     refine CW.ret ?_
     refine fin_ret1 rfl ?_
     exact⟨congrArg (fun b=>Ending.returned (.bool b)) e2,hs.clear⟩
    ·cases h
  ·obtain rfl:i=32:=by omega
   have e:ltD x y=false:=by
    have:x=y:=by
     apply ext_getElem?
     intro j
     by_cases hj:j<32
     ·exact heq j hj
     ·rw[getElem?_eq_none (by omega),getElem?_eq_none (by omega)]
    subst this
    exact ltD_irrefl x
   refine cq<|sr<|wm<|wV (run_bF (run_lss rfl rfl) (by omega))<|wZ<|cF rfl<|CW.exit<|sr<|wA<|wZ<|CW.ret ?_
   refine fin_ret1 rfl ?_
   exact⟨congrArg (fun b=>Ending.returned (.bool b)) e.symm,hs.clear⟩
end Go.Gx
