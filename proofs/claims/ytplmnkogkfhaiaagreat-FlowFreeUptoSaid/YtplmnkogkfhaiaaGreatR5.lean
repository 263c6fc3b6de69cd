/- mint.Read of node.Decode's reading function: its deferred call; node.Decode. mint.Read of node.Decode's reading function; node.Decode. The document's Reader: number, num, take. The document's Reader: num, Most, take, Read, Left. The document's reading of one entry, and its Decode. The document's Dec -/
import Derived.Test.YtplmnkogkfhaiaaGreatR4
import Derived.Test.YtplmnkogkfhaiaaGreatR1
set_option linter.unusedVariables false
set_option linter.unusedSimpArgs false
set_option maxRecDepth 100000
namespace Go.Gx
open Go.Proofs List
section
variable{P:Program}{f:Slots}{w:World}{d:Option Tmp}{ty:TypeId}{pos:String}{af:Array Edge}{x y:Operand}{I T':TypeId}
theorem run_neqIfaceNil{ms:_}{T:TypeId}{v:Value} (ht:P.underlying I=some (.interface ms)) (hx:ev f x=.iface T v) :
  (execOp (ev f) ⟨d,.binOp .neq I x (.const .nilIface) T',ty,pos,af,none⟩).run P w=.ok (.value (.bool true)) w:=by
 have e:ev f (.const .nilIface)=.nilIface:=rfl
 have h0:∀d,(Op.equalIn (d+1) I (.iface T v) .nilIface).run P w=.ok false w:=fun d=>by simp[Op.equalIn,run_underlying ht]
 have h:(Op.equal I (.iface T v) .nilIface).run P w=.ok false w:=h0 9999
 simp[execOp,hx,e,eqGuard,binOp,h]
theorem run_neqNilNil{ms:_} (ht:P.underlying I=some (.interface ms)) (hx:ev f x=.nilIface) :
  (execOp (ev f) ⟨d,.binOp .neq I x (.const .nilIface) T',ty,pos,af,none⟩).run P w=.ok (.value (.bool false)) w:=by
 have e:ev f (.const .nilIface)=.nilIface:=rfl
 have h0:∀d,(Op.equalIn (d+1) I .nilIface .nilIface).run P w=.ok true w:=fun d=>by simp[Op.equalIn,run_underlying ht]
 have h:(Op.equal I .nilIface .nilIface).run P w=.ok true w:=h0 9999
 simp[execOp,hx,e,eqGuard,binOp,h]
theorem run_neqPtrSame{E:TypeId}{agg:Bool}{n by_:Nat}{zs:List Value}{a:Addr} (ht:P.underlying I=some (.pointer E)) (hE:Ty P E agg n by_ zs) (hn:n≠0) (hx:ev f x=.pointer (some a)) (hy:ev f y=.pointer (some a)) :
  (execOp (ev f) ⟨d,.binOp .neq I x y T',ty,pos,af,none⟩).run P w=.ok (.value (.bool false)) w:=by
 have h0:∀d,(Op.equalIn (d+1) I (.pointer (some a)) (.pointer (some a))).run P w=.ok true w:=fun d=>by simp[Op.equalIn,run_underlying ht,run_sizeOf hE,hn,sameAddr]
 have h:(Op.equal I (.pointer (some a)) (.pointer (some a))).run P w=.ok true w:=h0 9999
 simp[execOp,hx,hy,eqGuard,binOp,h]
theorem run_tA{v r:Value}{T A:TypeId}{ok:Bool} (hx:ev f x=v) (h:(Instr.typeAssert v T A ok).run P w=.ok r w) :
  (execOp (ev f) ⟨d,.typeAssert x T A ok,ty,pos,af,none⟩).run P w=.ok (.value r) w:=by
 simp[execOp,hx,h]
end
theorem tA_nil (w:World):(Instr.typeAssert .nilIface 20 268 true).run Tryz.prog w=.ok (.tuple #[.agg #[.pointer none],.bool false]) w:=by kernel_rfl
def RdL (b5 b9 b4:Nat) (bv:Value) (q:Nat) (ov:Bool) (ft er:Int):(List (Nat×Obj)):=[(b9,blk 266 [bv,.int .i64 q,.bool ov,.int .i64 ft]),(b5,blk 228 [.pointer (some ⟨b9,0,none⟩)]),(b4,blk 36 [.int .i64 er])]
theorem rd1_ret{b5 b9 b4 q m c:Nat}{a:Option Addr} (w0:World) (hO:Step [b9,b5,b4] (RdL b5 b9 b4 (.slice a m c) q false 0 0) w0 w0) :
  CallsD Tryz.prog 159 #[pt b5,pt b4] .returning w0 fun e u' w'=>(∃v,e=.returned v)∧settle u'=.returning∧Step [b9,b5,b4] (RdL b5 b9 b4 (.slice a m c) q true 0 (if q<m then 13 else 0)) w0 w':=by
 have hs:=hO
 unfold RdL at hs
 refine callsD_rec (n:=48) Tryz.func159 rfl rfl rfl ?_
 intro c0 cs hc0
 refine CS.seq (CS.of ?_)
 refine cr<|wl ty228 rfl (hs.c1 rfl)<|wn rfl<|wF 2 u266 rfl ty4 rfl<|ws1 ty4 rfl rfl (rfl) (hs) (fun w hs=>?_)
 refine wZ<|CS.seq (CS.recover (v:=.nilIface) (cs':=c0::cs) rfl rfl (.inr ⟨by simp[recoverD,hc0],rfl,rfl⟩) ?_)
 refine CS.of ?_
 refine cq<|sr<|wm<|wV (run_tA rfl (tA_nil _))<|wm<|wx rfl rfl<|wx rfl rfl<|WL.alloc ty268 rfl hs (fun b3 w hs=>?_)
 refine WL.storeAll ty268 rfl rfl (rfl) ((fun v hv=>by simp at hv;subst hv;rfl)) (hs) rfl (fun w hs=>?_)
 refine wA<|wZ<|sr<|wm<|wV (run_neqNilNil u20 rfl)<|wm<|wz<|wz<|wz<|wz<|wz<|wz<|wz<|wz<|pF<|wZ ?_
 refine cF rfl<|ck<|cB<|sr<|wl ty228 rfl (hs.c2 rfl)<|wn rfl<|wF 3 u266 rfl ty36 rfl<|wl ty36 rfl (hs.c1 rfl)<|nF<|wA<|wZ ?_
 by_cases hq:q<m
 ·refine cF rfl<|cq<|CW.quiet mixedP (by kernel_rfl) hs ?_
  refine qL ty228 rfl (fun w hs=>hs.c2 rfl)<|qn rfl<|qF 1 u266 rfl ty3 rfl<|qL ty3 rfl (fun w hs=>hs.c1 rfl)<|qL ty228 rfl (fun w hs=>hs.c2 rfl)<|qn rfl<|qF 0 u266 rfl ty76 rfl<|qL ty76 rfl (fun w hs=>hs.c1 rfl)<|qV (fun w hs=>run_lenSl u76 rfl)<|qV (fun w hs=>run_bT (run_lss rfl rfl) (by omega))<|qA<|QL.nil (fun w hs=>?_)
  refine cT rfl<|cr<|ws1 ty36 rfl rfl (rfl) ((hs.front [_,_,_])) (fun w hs=>?_)
  refine wZ<|finS_end0 (u':=c0.mode) rfl ⟨⟨_,rfl⟩,by rw[hc0];rfl,?_⟩
  rw[if_pos hq]
  exact(hs.swap.tail).rot1
 ·refine cF rfl<|cq<|CW.quiet mixedP (by kernel_rfl) hs ?_
  refine qL ty228 rfl (fun w hs=>hs.c2 rfl)<|qn rfl<|qF 1 u266 rfl ty3 rfl<|qL ty3 rfl (fun w hs=>hs.c1 rfl)<|qL ty228 rfl (fun w hs=>hs.c2 rfl)<|qn rfl<|qF 0 u266 rfl ty76 rfl<|qL ty76 rfl (fun w hs=>hs.c1 rfl)<|qV (fun w hs=>run_lenSl u76 rfl)<|qV (fun w hs=>run_bF (run_lss rfl rfl) (by omega))<|qA<|QL.nil (fun w hs=>?_)
  refine cF rfl<|ck<|finS_end0 (u':=c0.mode) rfl ⟨⟨_,rfl⟩,by rw[hc0];rfl,?_⟩
  rw[if_neg hq]
  exact hs.tail
theorem rd1_panic{b5 b9 b4 q:Nat}{bv:Value}{er:Int} (he:er≠0) (w0:World) (hO:Step [b9,b5,b4] (RdL b5 b9 b4 bv q true er 0) w0 w0) :
  CallsD Tryz.prog 159 #[pt b5,pt b4] (.panicking (pch b9)) w0 fun e u' w'=>(∃v,e=.returned v)∧settle u'=.returning∧Step [b9,b5,b4] (RdL b5 b9 b4 bv q true er er) w0 w':=by
 have hs:=hO
 unfold RdL at hs
 refine callsD_rec (n:=48) Tryz.func159 rfl rfl rfl ?_
 intro c0 cs hc0
 refine CS.seq (CS.of ?_)
 refine cr<|wl ty228 rfl (hs.c1 rfl)<|wn rfl<|wF 2 u266 rfl ty4 rfl<|ws1 ty4 rfl rfl (rfl) (hs) (fun w hs=>?_)
 refine wZ<|CS.seq (CS.recover (v:=pv b9) (cs':={ c0 with mode:=.panicking [{ v:=pv b9,recovered:=true }] }::cs) rfl rfl (.inl (by simp[recoverD,hc0,pch])) ?_)
 refine CS.of ?_
 refine cq<|sr<|wm<|wV (run_assertOk u268 rfl rfl)<|wm<|wx rfl rfl<|wx rfl rfl<|WL.alloc ty268 rfl hs (fun b3 w hs=>?_)
 refine WL.storeAll ty268 rfl rfl (rfl) ((fun v hv=>by simp at hv;subst hv;rfl)) (hs) rfl (fun w hs=>?_)
 refine wA<|wZ<|sr<|wm<|wV (run_neqIfaceNil u20 rfl)<|wm<|wy<|wm<|wy<|wN rfl<|wy<|wm<|wy<|wF 0 u268 rfl ty228 rfl<|wy<|wl ty228 rfl (hs.c0 rfl)<|wy<|wl ty228 rfl (hs.c2 rfl)<|wy<|wV (run_neqPtrSame u228 ty266 (by decide) rfl rfl)<|wy<|pF<|pT ?_
 refine wZ<|cF rfl<|ck<|cB<|sr<|wl ty228 rfl (hs.c2 rfl)<|wn rfl<|wF 3 u266 rfl ty36 rfl<|wl ty36 rfl (hs.c1 rfl)<|wV (run_bT (run_neq rfl rfl) (by exact he))<|wA<|wZ<|cT rfl<|cr<|wl ty228 rfl (hs.c2 rfl)<|wn rfl<|wF 3 u266 rfl ty36 rfl<|wl ty36 rfl (hs.c1 rfl) ?_
 refine ws1 ty36 rfl rfl (rfl) ((hs.front [_,_,_])) (fun w hs=>?_)
 refine wZ ?_
 exact finS_end0 rfl ⟨⟨_,rfl⟩,rfl,(hs.swap.tail).rot1⟩
theorem entP_err{bs a:U8}{p:Nat}{e:Int} (h:entP a bs p=.error e):e≠0:=by
 have hb:∀{p:Nat}{e:Int},bytesP bs p=.error e→e≠0:=fun {p e} h=>by
  unfold bytesP at h
  split at h
  ·rename_i h1;injection h with h;subst h;rcases numP_err h1 with h | h <;> omega
  ·split at h
   ·injection h with h;omega
   ·cases h
 unfold entP at h
 split at h
 ·rename_i h1;injection h with h;subst h;rcases numP_err h1 with h | h <;> omega
 ·split at h
  ·split at h
   ·rename_i h1;injection h with h;subst h;exact hb h1
   ·split at h
    ·split at h
     ·rename_i h1;injection h with h;subst h;exact hb h1
     ·split at h
      ·injection h with h;omega
      ·cases h
    ·injection h with h;omega
  ·injection h with h;omega
theorem entsP_err{bs:U8}:∀{n:Nat}{a:U8}{p:Nat}{e:Int},entsP bs n a p=.error e→e≠0
 | 0,a,p,e,h=>by cases h
 | n+1,a,p,e,h=>by
  unfold entsP at h
  split at h
  ·rename_i h1;injection h with h;subst h;exact entP_err h1
  ·split at h
   ·rename_i h1;injection h with h;subst h;exact entsP_err h1
   ·cases h
theorem decP_err{bs:U8}{e:Int} (h:decP bs=.error e):e≠0:=by
 unfold decP at h
 split at h
 ·rename_i h1;injection h with h;subst h;rcases numP_err h1 with h | h <;> omega
 ·split at h
  ·split at h
   ·rename_i h1
    injection h with h;subst h
    unfold mostP at h1
    split at h1
    ·rename_i h2;injection h1 with h;subst h;rcases numP_err h2 with h | h <;> omega
    ·split at h1
     ·injection h1 with h;omega
     ·cases h1
   ·exact entsP_err h
  ·injection h with h;omega
def readP (bs:(List UInt8)):Int×List Ent:=match decP bs with
 | .error e=>(e,[])
 | .ok (l,q)=>if q<bs.length then (13,[]) else (0,l)
def ReadR (bl:Nat) (bs:(List UInt8)) (w0:World) (e:Ending) (w':World):Prop:=∃u Lv G,e=.returned (.int .i64 (readP bs).1)∧Cell1 u∧((readP bs).1=0→OwnSl 115 34 u (readP bs).2.length (rows (readP bs).2) Lv∧Oks (readP bs).2∧(readP bs).2.length≤1024)∧Step [bl] ((bl,blk 116 [u])::(Lv++G)) w0 w'
theorem bld_reader (a:Option Addr) (m c:Nat) (w:World):(Instr.build 266 #[(0,.slice a m c)]).run Tryz.prog w=.ok (.agg #[.slice a m c,.int .i64 0,.bool false,.int .i64 0]) w:=by kernel_rfl
theorem read_at{bl:Nat}{bs:U8}{v:Value} (w0:World) (hv:Sl w0 1 v bs.length (u8s bs)) (hout:u8s bs=[]∨Outside v [bl]) (hlen:bs.length≤1048576) (hO:Step [bl] [(bl,blk 116 [.slice none 0 0])] w0 w0) :
  CP 124 #[v,.func (.func 125) #[] #[pt bl]] w0 (ReadR bl bs w0):=by
 have hs:=hO
 refine callsDef (n:=14) Tryz.func124 rfl rfl rfl ?_
 refine sr<|WL.alloc ty36 rfl hs (fun b4 w hs=>?_)
 refine wZ<|sr<|wm<|wE rfl (run_call en83 rfl rfl) (clone_spec (s:=bs) _ (hv.stepK hs hout) (by omega)) ?_
 rintro e w ⟨v',Lv',rfl,hv',hq⟩
 refine⟨_,rfl,?_⟩
 have ob:=hv'.form
 obtain⟨va,vc,rfl⟩:=ob
 replace hs:=(hs.call0 hq).append_comm
 refine wV (run_build rfl (bld_reader _ _ _ _))<|WL.box (cs:=[.slice va bs.length vc,.int .i64 0,.bool false,.int .i64 0]) rfl rfl rfl hs (fun b9 w hs=>?_)
 refine WL.alloc ty228 rfl hs (fun b5 w hs=>?_)
 refine ws1 ty228 rfl rfl (rfl) (hs) (fun w hs=>?_)
 refine wZ ?_
 replace hs:=Step.front [_,_] (Step.front [_,_,_] hs)
 have hs4:=hs
 have hown:Step [b9,bl] [RdB b9 (.slice va bs.length vc) 0,(bl,blk 116 [.slice none 0 0])] w w:=Step.own (L1:=[_,_]) hs
 have hcomm:=Step.append_comm (L1:=[_,_,_,_]) hs
 have hsl:=hv'.sl hcomm
 have hvo:Outside (.slice va bs.length vc) [b9,bl]:=hv'.outside fun p hp h=>hcomm.disj p hp (by simp at h⊢;rcases h with h | h <;> simp[h])
 refine sr<|wV (run_makeFuncC rfl)<|WL.defer (run_deferV (cap:=[pt b5,pt b4]) rfl) ?_
 refine wZ ?_
 have hdec:=fun r hr=>dec2_at (r:=r) hr w hsl hvo (hv'.room (by decide)) hlen hown
 cases hr:decP bs with
 | error er=>
  have hne:=decP_err hr
  have he:readP bs=(er,[]):=by unfold readP;rw[hr]
  refine sr<|wm<|wl ty228 rfl ((hs.tail.tail.c0 rfl))<|WL.enterX (run_callV (cap:=[pt bl]) en125 rfl rfl) (hdec _ hr) ?_
  rintro e w ⟨p,u,Lu,rfl,hu1,hq2⟩
  refine⟨_,rfl,?_⟩
  replace hs:=Step.two (X:=_::Lu) (Step.call (L1:=[RdB b9 _ 0,(bl,_)]) hs hq2)
  refine finD_panic (cap:=[pt b5,pt b4]) en159 ((rd1_panic hne _ (Step.own (L1:=[_,_,_]) hs)).mono fun e u' w' h=>?_)
  obtain⟨h1,h2,hq3⟩:=h
  refine⟨h1,h2,fun a ha=>?_⟩
  replace hs:=Step.call (L1:=[_,_,_]) hs hq3
  exact⟨_,res_cell1 ha rfl rfl (run_loadVar1 ty36 (hs.c2 rfl)),u,Lu,Lv',by rw[he],hu1,fun h=>absurd (by rw[he] at h;exact h) hne,Step.dropL (L1:=[_,_,_]) hs⟩
 | ok lq=>
  obtain⟨l,q⟩:=lq
  refine sr<|wm<|wl ty228 rfl ((hs.tail.tail.c0 rfl))<|wE rfl (run_callV (cap:=[pt bl]) en125 rfl rfl) (hdec _ hr) ?_
  rintro e w ⟨u,Lu,rfl,hu,hlo,hll,hqb,hq2⟩
  refine⟨_,rfl,?_⟩
  refine wZ ?_
  replace hs:=Step.front [_,_] (Step.two (X:=_::Lu) (Step.call (L1:=[RdB b9 _ 0,(bl,_)]) hs hq2))
  refine sr<|ws1 ty36 rfl rfl (rfl) (hs) (fun w hs=>?_)
  refine wZ ?_
  replace hs:=hs.rot3.rot3
  refine CW.ret ?_
  refine finD_ret (cap:=[pt b5,pt b4]) en159 ((rd1_ret _ (Step.own (L1:=[_,_,_]) hs)).mono fun e u' w' h=>?_)
  obtain⟨h1,h2,hq3⟩:=h
  refine⟨h1,h2,fun a ha=>?_⟩
  replace hs:=Step.call (L1:=[_,_,_]) hs hq3
  refine⟨_,res_cell1 ha rfl rfl (run_loadVar1 ty36 (hs.c2 rfl)),u,Lu,Lv',?_,hu.one,?_,Step.dropL (L1:=[_,_,_]) hs⟩
  ·unfold readP
   rw[hr]
   by_cases hlt:q<bs.length <;> simp[hlt]
  ·intro h0
   have he:readP bs=(0,l):=by
    unfold readP at h0⊢
    rw[hr] at h0⊢
    simp only at h0⊢
    split at h0
    ·cases h0
    ·rename_i hlt;rw[if_neg hlt]
   rw[he]
   exact⟨hu,hlo,hll⟩
def decE (bs:(List UInt8)):Int:=if 1048576<bs.length then 2 else (readP bs).1
def decL (bs:(List UInt8)):List Ent:=if decE bs=0 then (readP bs).2 else []
theorem dec1_at{b2 b3:Nat}{er:Int}{u:Value}{md:FrameMode} (w0:World) (hO:Step [b2,b3] [(b2,blk 116 [u]),(b3,blk 36 [.int .i64 er])] w0 w0) :
  CallsD Tryz.prog 123 #[pt b3,pt b2] md w0 fun e u' w'=>u'=md∧(e=.returned (.tuple #[])∧Step [b2,b3] [(b2,blk 116 [if er=0 then u else .slice none 0 0]),(b3,blk 36 [.int .i64 er])] w0 w'):=by
 have hs:=hO
 refine callsD_plain (n:=4) Tryz.func123 rfl rfl rfl ?_
 by_cases he:er=0
 ·refine sr<|wl ty36 rfl (hs.c1 rfl)<|wV (run_bF (run_neq rfl rfl) (by simpa using he))<|wZ<|cF rfl<|ck<|fin_end0 rfl ?_
  rw[if_pos he]
  exact⟨rfl,hs⟩
 ·refine sr<|wl ty36 rfl (hs.c1 rfl)<|wV (run_bT (run_neq rfl rfl) (by exact he))<|wZ<|cT rfl<|cr<|ws1 ty116 rfl rfl (rfl) (hs) (fun w hs=>?_)
  refine wZ<|fin_end0 rfl ?_
  rw[if_neg he]
  exact⟨rfl,hs⟩
theorem decode_at{bs:U8}{v:Value} (w0:World) (hv:Sl w0 1 v bs.length (u8s bs)) (hlen:bs.length≤9223372036854775807) :
  CP 78 #[v] w0 fun e w'=>∃u Lv,e=.returned (.tuple #[u,.int .i64 (decE bs)])∧OwnSl 115 34 u (decL bs).length (rows (decL bs)) Lv∧Oks (decL bs)∧(decL bs).length≤1024∧Step [] Lv w0 w':=by
 have hs:Step [] [] w0 w0:=Step.refl w0
 obtain⟨a,c,rfl⟩:∃a c,v=.slice a bs.length c:=by
  have ob:=id hv
  obtain⟨_,⟨_,c,rfl,h0⟩ | ⟨b,off,c,rfl,_⟩⟩:=ob
  ·exact⟨_,_,by rw[h0]⟩
  ·exact⟨_,_,rfl⟩
 refine callsDef (n:=13) Tryz.func78 rfl rfl rfl ?_
 refine sr<|WL.alloc ty116 rfl hs (fun b2 w hs=>?_)
 refine WL.alloc ty36 rfl hs (fun b3 w hs=>?_)
 refine wZ ?_
 by_cases hbig:1048576<bs.length
 ·have he:decE bs=2:=if_pos hbig
  have hl:decL bs=[]:=by unfold decL;rw[he];rfl
  refine cq<|sr<|wm<|wL u76 rfl<|xT<|wZ<|cT rfl<|sr<|ws1 ty116 rfl rfl (rfl) (hs.swap) (fun w hs=>?_)
  refine ws1 ty36 rfl rfl (rfl) (hs.swap) (fun w hs=>?_)
  refine wZ<|CW.ret ?_
  refine finD_ret0 fun a ha=>⟨_,res_cell2 ha rfl rfl rfl (run_loadVar1 ty116 (hs.c1 rfl)) (run_loadVar1 ty36 (hs.c0 rfl)),?_⟩
  rw[he,hl]
  exact⟨_,_,rfl,.nil _ _,Oks.nil,by simp,hs.clear⟩
 ·have he:decE bs=(readP bs).1:=if_neg hbig
  refine cq<|sr<|wm<|wL u76 rfl<|xF<|wZ<|cF rfl<|ck<|sr<|wV (run_makeFuncC rfl)<|WL.defer (run_deferV (cap:=[pt b3,pt b2]) rfl) ?_
  refine wZ ?_
  replace hs:=hs.swap
  refine sr<|wm<|wV (run_makeFuncC rfl)<|wE rfl (run_call en124 rfl rfl) (read_at _ (hv.step0 hs.clear) (Outside.newer hv hs (fun k hk=>by simp at hk⊢;exact .inl hk)) (by omega) (Step.own (L1:=[_]) hs)) ?_
  rintro e w ⟨u,Lv,G,rfl,hu1,hok,hq⟩
  refine⟨_,rfl,?_⟩
  replace hs:=Step.call (L1:=[_]) hs hq
  replace hs:=Step.append_comm hs
  refine ws1 ty36 rfl rfl (rfl) (hs) (fun w hs=>?_)
  refine wZ ?_
  replace hs:=hs.swap
  refine cq<|CW.any (A:=fun w=>Step [] [(b2,blk 116 [u]),(b3,blk 36 [.int .i64 (readP bs).1])] w0 w) (C:=fun w=>Step [] [(b2,blk 116 [u]),(b3,blk 36 [.int .i64 (readP bs).1])] w0 w) 1000000 4 mixedP rfl ?_
  replace hs:=hs.drew
  refine aL 0 rfl ty116 rfl (fun w hs=>hs.c0 rfl)<|aL 1 rfl ty36 rfl (fun w hs=>hs.c1 rfl)<|AL.one 2 (by kernel_rfl) rfl (Step.dropR (L1:=[_,_]) hs) (Step.dropR (L1:=[_,_]) hs) ?_
  refine ws1 ty116 rfl rfl (hu1) hs (fun w hs=>?_)
  refine wZ<|⟨rfl,?_⟩
  refine AL.one 3 (by kernel_rfl) rfl (Step.dropR (L1:=[_,_]) hs) (Step.dropR (L1:=[_,_]) hs) ?_
  refine ws1 ty36 rfl rfl (rfl) (hs.swap) (fun w hs=>?_)
  replace hs:=hs.swap
  refine wZ<|⟨rfl,?_⟩
  refine AL.end (by kernel_rfl) (Step.dropR (L1:=[_,_]) hs) (Step.dropR (L1:=[_,_]) hs) ?_
  refine CW.ret ?_
  refine finD_ret (cap:=[pt b3,pt b2]) en123 ((dec1_at _ (Step.own (L1:=[_,_]) hs)).mono fun e u' w' h=>?_)
  obtain⟨h1,rfl,hq3⟩:=h
  refine⟨⟨_,rfl⟩,by rw[h1];rfl,fun a ha=>?_⟩
  replace hs:=Step.call (L1:=[_,_]) hs hq3
  by_cases h0:(readP bs).1=0
  ·rw[if_pos h0] at hs
   have ob:=hok h0
   obtain⟨ho1,ho2,ho3⟩:=ob
   refine⟨_,res_cell2 ha rfl rfl rfl (run_loadVar1 ty116 (hs.c0 rfl)) (run_loadVar1 ty36 (hs.c1 rfl)),?_⟩
   have hl:decL bs=(readP bs).2:=by unfold decL;rw[he,if_pos h0]
   rw[he,hl]
   exact⟨u,Lv,rfl,ho1,ho2,ho3,Step.dropR (Step.dropL (L1:=[_,_]) hs)⟩
  ·rw[if_neg h0] at hs
   refine⟨_,res_cell2 ha rfl rfl rfl (run_loadVar1 ty116 (hs.c0 rfl)) (run_loadVar1 ty36 (hs.c1 rfl)),?_⟩
   have hl:decL bs=[]:=by unfold decL;rw[he,if_neg h0]
   rw[he,hl]
   exact⟨_,_,rfl,.nil _ _,Oks.nil,by simp,hs.clear⟩
def RRB (b:Nat) (bv:Value) (p:Nat) (e:Int):Nat×Obj:=(b,blk 186 [bv,.int .i64 p,.int .i64 e])
structure RrOk (w:World) (b:Nat) (bs:(List UInt8)) (bv:Value) (p:Nat):Prop where
 own:Step [b] [RRB b bv p 0] w w
 sl:Sl w 1 bv bs.length (u8s bs)
 out:bs=[]∨Outside bv [b]
 room:Room bv
 len:bs.length≤4194304
def RrN (b:Nat) (bv:Value) (p:Nat) (w0:World) (k:Nat→Value):Except Int (Nat×Nat)→Ending→World→Prop
 | .ok (u,q),e,w'=>e=.returned (.tuple #[k u,.int .i64 (q - p:Nat)])∧Step [b] [RRB b bv p 0] w0 w'
 | .error er,e,w'=>e=.returned (.tuple #[k 0,.int .i64 0])∧Step [b] [RRB b bv p er] w0 w'
def RrV (b:Nat) (bv:Value) (p:Nat) (w0:World):Except Int (Nat×Nat)→Ending→World→Prop
 | .ok (u,q),e,w'=>e=.returned (.int .i64 u)∧Step [b] [RRB b bv q 0] w0 w'
 | .error er,e,w'=>e=.returned (.int .i64 0)∧Step [b] [RRB b bv p er] w0 w'
def RrT (b:Nat) (bv:Value) (bs:(List UInt8)) (p k n:Nat) (w0:World) (e:Ending) (w':World):Prop:=
 if bs.length<p+k+n then e=.returned (.slice none 0 0)∧Step [b] [RRB b bv p 11] w0 w'
 else ∃v Lv,e=.returned v∧OwnSl 5 1 v n (u8s ((bs.drop (p+k)).take n)) Lv∧Step [b] (RRB b bv (p+k+n) 0::Lv) w0 w'
def itemV (k n:Int) (v:Value):List Value:=[.int .i64 k,.int .i64 n,v]
def RrA (b:Nat) (bv:Value) (p:Nat) (w0:World):Except Int (Nat×Nat)→Ending→World→Prop
 | .ok (u,q),e,w'=>e=.returned (.agg (itemV 1 u (.slice none 0 0)).toArray)∧Step [b] [RRB b bv q 0] w0 w'
 | .error er,e,w'=>e=.returned (.agg (itemV 1 0 (.slice none 0 0)).toArray)∧Step [b] [RRB b bv p er] w0 w'
def RrB (b:Nat) (bv:Value) (p:Nat) (kd:Int) (w0:World):Except Int ((List UInt8)×Nat)→Ending→World→Prop
 | .ok (s,q),e,w'=>∃v Lv,e=.returned (.agg (itemV kd 0 v).toArray)∧OwnSl 5 1 v s.length (u8s s) Lv∧Step [b] (RRB b bv q 0::Lv) w0 w'
 | .error er,e,w'=>e=.returned (.agg (itemV kd 0 (.slice none 0 0)).toArray)∧Step [b] [RRB b bv p er] w0 w'
def zE:Ent:=⟨[],0,List.replicate 32 0⟩
def OneR (b:Nat) (bv:Value) (w0:World):Except Int (Ent×Nat)→Ending→World→Prop
 | .ok (x,q),e,w'=>e=.returned (.tuple #[.agg x.cells.toArray,.int .i64 0])∧Step [b] [RRB b bv q 0] w0 w'
 | .error er,e,w'=>∃o,e=.returned (.tuple #[.agg zE.cells.toArray,.int .i64 er])∧Step [b] [(b,o)] w0 w'
def DecRes (bs:(List UInt8)) (w0:World) (e:Ending) (w':World):Prop:=∃u Lv,e=.returned (.tuple #[u,.int .i64 (decE bs)])∧OwnSl 115 34 u (decL bs).length (rows (decL bs)) Lv∧Oks (decL bs)∧(decL bs).length≤1024∧Step [] Lv w0 w'
end Go.Gx
namespace Go.Gx
open Go.Proofs Go.RowKit List
def splitL:(List UInt8)→List (List UInt8)
 | []=>[[]]
 | c::s=>if c=47 then []::splitL s else match splitL s with
  | []=>[[c]]
  | p::ps=>(c::p)::ps
def partsL (s:(List UInt8)):List (List UInt8):=if s=[] then [] else splitL s
theorem splitL_ne:∀s,splitL s≠[]
 | []=>by simp[splitL]
 | c::s=>by
  rw[splitL]
  split
  ·simp
  ·split <;> simp
theorem splitL_none:∀{s:U8},47∉s→splitL s=[s]
 | [],_=>rfl
 | c::s,h=>by
  simp only[mem_cons,not_or] at h
  rw[splitL,if_neg (fun e=>h.1 e.symm),splitL_none h.2]
theorem splitL_hit{b:U8}:∀{a:U8},47∉a→splitL (a++47::b)=a::splitL b
 | [],_=>by simp[splitL]
 | c::a,h=>by
  simp only[mem_cons,not_or] at h
  rw[cons_append,splitL,if_neg (fun e=>h.1 e.symm),splitL_hit h.2]
theorem refParts_spec{s:U8} (w0:World) (hs1:s.length<4294967281):CP 154 #[str s] w0 fun e w'=>∃u Lu,e=.returned u∧OwnSl 9 1 u (partsL s).length (strs (partsL s)) Lu∧Step [] Lu w0 w':=by
 have hs:Step [] [] w0 w0:=Step.refl w0
 by_cases h0:s=[]
 ·have e:partsL s=[]:=if_pos h0
  rw[e]
  refine calls (n:=34) Tryz.func154 rfl rfl rfl ?_
  refine sr<|wA<|wZ<|cq<|sr<|wm<|wV (run_bT (run_strEq rfl rfl) (by exact h0))<|wZ<|cT rfl<|sr<|wA<|wZ ?_
  refine CW.ret ?_
  refine fin_ret1 rfl ?_
  exact⟨_,_,rfl,.nil _ _,hs⟩
 ·have e:partsL s=splitL s:=if_neg h0
  rw[e]
  refine calls (n:=34) Tryz.func154 rfl rfl rfl ?_
  refine sr<|wA<|wZ<|cq<|sr<|wm<|wV (run_bF (run_strEq rfl rfl) (by exact h0))<|wZ<|cF rfl<|ck<|sr<|wA<|wZ<|sr<|wA<|wZ<|cq<|sr<|wA<|wZ<|cB ?_
  refine CW.loop (fun m f w'=>∃i fr P u Lu,i≤s.length+1∧m=s.length+1 - i∧P.length≤i∧(i≤s.length→fr≤i∧splitL s=P++splitL (s.drop fr)∧47∉(s.drop fr).take (i - fr))∧(i=s.length+1→splitL s=P)∧OwnSl 9 1 u P.length (strs P) Lu∧Step [] Lu w0 w'∧Holds f [(0,str s),(3,u),(4,.int .i64 fr),(5,.int .i64 i)]) (m:=s.length+1) ?_ ?_
  ·exact⟨0,0,[],_,[],by omega,by omega,by simp,fun _=>⟨by omega,rfl,by simp⟩,fun h=>by omega,.nil _ _,hs,rfl,rfl,rfl,rfl,trivial⟩
  ·clear hs
   rintro m f w ⟨i,fr,P,u,Lu,hi,rfl,hPl,hin,hout,hu,hs,hf⟩
   have ob:=hf.chain
   obtain⟨g,rfl⟩:=ob
   by_cases hle:i≤s.length
   ·have ob:=hin hle
    obtain⟨hfr,hsp,hno⟩:=ob
    have hdt:(s.drop fr).take (i - fr)=(s.take i).drop fr:=by rw[drop_take]
    by_cases hend:i=s.length
    ·have hlast:splitL s=P++[(s.take i).drop fr]:=by
      rw[hsp,splitL_none (by rw[hdt,hend,take_length] at hno;exact hno),hend,take_length]
     refine cq<|sr<|wm<|wm<|wV (run_lenStr u9 rfl)<|iT<|wZ<|cT rfl<|ck<|cq<|cB<|sr<|wm<|wm<|wV (run_lenStr u9 rfl)<|eT<|wm<|wz<|wz<|wz<|wz<|pT<|wZ ?_
     refine cT rfl<|sr<|wm<|wm<|wm<|wm<|wV (run_sliceStr u9 rfl rfl rfl (by omega) (by omega))<|WL.buildSlice (cs:=[str ((s.take i).drop fr)]) u256 ty9 rfl (by decide) rfl (filled_s _ _ rfl) rfl hs (fun b29 w hs=>?_)
     have hsl:Sl w 1 (.slice (some ⟨b29,0,none⟩) 1 1) 1 [str ((s.take i).drop fr)]:=.own1 hs rfl
     refine WL.append u256 u256 ty9 rfl (by decide) rfl rfl (hu) ((Step.append_comm (L1:=[_]) hs)) (hsl) ((fun v hv=>by rw[mem_singleton.1 hv];rfl)) (by omega) rfl (fun v30 Lv30 w hv30 hs=>?_)
     refine wA<|wZ<|cr<|wm<|wP ((i+1:Nat):Int)<|wA<|wZ<|cr<|wm<|wP ((i+1:Nat):Int)<|wA<|wZ ?_
     have eP:strs P++[str ((s.take i).drop fr)]=strs (P++[(s.take i).drop fr]):=by simp[strs]
     rw[eP] at hv30
     refine(show _∧_ from⟨rfl,_,?_,i+1,i+1,P++[(s.take i).drop fr],_,_,by omega,rfl,by simp;omega,fun h=>by omega,fun _=>hlast,?_,Step.dropR hs,rfl,rfl,rfl,rfl,trivial⟩)
     ·omega
     ·rw[length_append]
      exact hv30
    ·have hlt:i<s.length:=by omega
     have hc:s[i]?=some s[i]:=getElem?_eq_getElem hlt
     have hdi:s.drop fr=(s.take i).drop fr++s[i]::s.drop (i+1):=by
      rw[←hdt,←drop_eq_getElem_cons hlt]
      have:s.drop i=(s.drop fr).drop (i - fr):=by rw[drop_drop];congr 1;omega
      rw[this,take_append_drop]
     by_cases hsl:s[i]=47
     ·have hcut:splitL s=P++[(s.take i).drop fr]++splitL (s.drop (i+1)):=by
       rw[hdt] at hno
       rw[hsp,hdi,hsl,splitL_hit hno,append_assoc]
       rfl
      refine cq<|sr<|wm<|wm<|wV (run_lenStr u9 rfl)<|iT<|wZ<|cT rfl<|ck<|cq<|cB<|sr<|wm<|wm<|wV (run_lenStr u9 rfl)<|eF<|wm<|wy<|wm<|wy<|wm<|wy<|wV (run_strIdx u9 rfl rfl (hc))<|wy<|wV (run_bT (run_eql rfl rfl) (by rw[hsl];rfl))<|pF<|wZ ?_
      refine cT rfl<|sr<|wm<|wm<|wm<|wm<|wV (run_sliceStr u9 rfl rfl rfl (by omega) (by omega))<|WL.buildSlice (cs:=[str ((s.take i).drop fr)]) u256 ty9 rfl (by decide) rfl (filled_s _ _ rfl) rfl hs (fun b29 w hs=>?_)
      have hsl:Sl w 1 (.slice (some ⟨b29,0,none⟩) 1 1) 1 [str ((s.take i).drop fr)]:=.own1 hs rfl
      refine WL.append u256 u256 ty9 rfl (by decide) rfl rfl (hu) ((Step.append_comm (L1:=[_]) hs)) (hsl) ((fun v hv=>by rw[mem_singleton.1 hv];rfl)) (by omega) rfl (fun v30 Lv30 w hv30 hs=>?_)
      refine wA<|wZ<|cr<|wm<|wP ((i+1:Nat):Int)<|wA<|wZ<|cr<|wm<|wP ((i+1:Nat):Int)<|wA<|wZ ?_
      have eP:strs P++[str ((s.take i).drop fr)]=strs (P++[(s.take i).drop fr]):=by simp[strs]
      rw[eP] at hv30
      refine(show _∧_ from⟨rfl,_,?_,i+1,i+1,P++[(s.take i).drop fr],_,_,by omega,rfl,by simp;omega,fun h=>⟨Nat.le_refl _,hcut,by simp⟩,fun h=>by omega,?_,Step.dropR hs,rfl,rfl,rfl,rfl,trivial⟩)
      ·omega
      ·rw[length_append]
       exact hv30
     ·have hnz:¬((s[i].toNat:Int)=47):=fun h=>hsl (UInt8.toNat_inj.1 (by simpa using(show s[i].toNat=47 by omega)))
      refine cq<|sr<|wm<|wm<|wV (run_lenStr u9 rfl)<|iT<|wZ<|cT rfl<|ck<|cq<|cB<|sr<|wm<|wm<|wV (run_lenStr u9 rfl)<|eF<|wm<|wy<|wm<|wy<|wm<|wy<|wV (run_strIdx u9 rfl rfl (hc))<|wy<|wV (run_bF (run_eql rfl rfl) (by exact hnz))<|pF<|wZ ?_
      refine cF rfl<|ck<|cr<|wm<|wP ((i+1:Nat):Int)<|wA<|wZ<|(show _∧_ from⟨rfl,_,?_,i+1,fr,P,u,Lu,by omega,rfl,by omega,fun h=>⟨by omega,hsp,?_⟩,fun h=>by omega,hu,hs,rfl,rfl,rfl,rfl,trivial⟩)
      ·omega
      ·rw[show i+1 - fr=(i - fr)+1 by omega,take_succ_eq_append_getElem (by rw[length_drop];omega),mem_append]
       rintro(h | h)
       ·exact hno h
       ·rw[mem_singleton,getElem_drop] at h
        apply hsl
        rw[h]
        congr 1
        omega
   ·obtain rfl:i=s.length+1:=by omega
    refine cq<|sr<|wm<|wm<|wV (run_lenStr u9 rfl)<|iF<|wZ<|cF rfl<|CW.exit<|sr<|wm<|wA<|wZ ?_
    refine CW.ret ?_
    refine fin_ret1 rfl ?_
    rw[hout rfl]
    exact⟨u,Lu,rfl,hu,hs⟩
section
variable{P:Program}{f:Slots}{w:World}{d:Option Tmp}{ty:TypeId}{pos:String}{af:Array Edge}{x y z:Operand}{T T':TypeId}{s t:U8}
theorem run_strAdd (hx:ev f x=str s) (hy:ev f y=str t) (hl:s.length+t.length≤9223372036854775807):(execOp (ev f) ⟨d,.binOp .add T x y T',ty,pos,af,none⟩).run P w=.ok (.value (str (s++t))) w:=by
 have h:¬(9223372036854775807<(s.length:Int)+(t.length:Int)):=by omega
 have e:ByteArray.mk ⟨s⟩++ByteArray.mk ⟨t⟩=⟨⟨s++t⟩⟩:=by
  apply ByteArray.ext
  simp
 simp[execOp,hx,hy,str,go_sem,binOp,Op.stringOp,h,e]
end
def joinL (l:List (List UInt8)):(List UInt8):=[47].intercalate l
theorem join_len:∀l:List (List UInt8),(joinL l).length≤(l.map fun x=>x.length+1).sum
 | []=>by simp[joinL,intercalate]
 | [x]=>by simp[joinL,intercalate]
 | x::y::l=>by
  have ih:=join_len (y::l)
  have e:joinL (x::y::l)=x++47::joinL (y::l):=by simp[joinL,intercalate,intersperse]
  rw[e]
  simp only[length_append,length_cons,map_cons,sum_cons] at *
  omega
theorem splitL_len:∀s,(splitL s).length≤s.length+1
 | []=>by simp[splitL]
 | c::s=>by
  have ih:=splitL_len s
  rw[splitL]
  split
  ·simp;omega
  ·split
   ·simp
   ·rename_i p ps h
    rw[h] at ih
    simp at ih⊢
    omega
theorem partsL_len (s:U8):(partsL s).length≤s.length+1:=by
 unfold partsL
 split
 ·simp
 ·exact splitL_len s
def Named (row:List (List UInt8)):Prop:=∀p∈row,isName p=true
theorem isName_le{s:U8} (h:isName s=true):s.length≤64:=by
 simp only[isName,Bool.and_eq_true,decide_eq_true_eq] at h
 exact h.1.2.1
theorem named_join:∀{row:List (List UInt8)},Named row→(row.map fun x=>x.length+1).sum≤65*row.length
 | [],_=>by simp
 | x::row,h=>by
  have h1:=isName_le (h x (by simp))
  have h2:=named_join (row:=row) (fun p hp=>h p (by simp[hp]))
  simp only[map_cons,sum_cons,length_cons]
  omega
theorem splitL_le:∀(s p:U8),p∈splitL s→p.length≤s.length
 | [],p,h=>by
  simp[splitL] at h
  simp[h]
 | c::s,p,h=>by
  have ih:=splitL_le s
  rw[splitL] at h
  split at h
  ·rcases mem_cons.1 h with rfl | h
   ·simp
   ·have:=ih p h;simp;omega
  ·split at h
   ·rcases mem_cons.1 h with rfl | h
    ·simp
    ·cases h
   ·rename_i q qs hq
    rw[hq] at ih
    rcases mem_cons.1 h with rfl | h
    ·have:=ih q (by simp);simp;omega
    ·have:=ih p (by simp[h]);simp;omega
theorem partsL_le{s p:U8} (h:p∈partsL s):p.length≤s.length:=by
 unfold partsL at h
 split at h
 ·cases h
 ·exact splitL_le s p h
theorem joinL_snoc (l:List (List UInt8)) (p:U8):joinL (l++[p])=(if 0<l.length then joinL l++[47] else joinL l)++p:=by
 induction l with
 | nil=>simp[joinL,intercalate]
 | cons x l ih=>
  rw[if_pos (by simp)]
  cases l with
  | nil=>simp[joinL,intercalate]
  | cons y l=>
   rw[if_pos (by simp)] at ih
   have e1:joinL (x::y::l)=x++47::joinL (y::l):=by simp[joinL,intercalate,intersperse]
   have e2:joinL (x::y::l++[p])=x++47::joinL (y::l++[p]):=by simp[joinL,intercalate,intersperse]
   rw[e2,ih,e1]
   simp
theorem joinL_take{l:List (List UInt8)}{i:Nat}{p:U8} (h:l[i]?=some p):joinL (l.take (i+1))=(if 0<i then joinL (l.take i)++[47] else joinL (l.take i))++p:=by
 have hi:=(List.getElem?_eq_some_iff.1 h).1
 rw[take_add_one,h]
 show joinL (l.take i++[p])=_
 rw[joinL_snoc,length_take,Nat.min_eq_left (by omega)]
theorem joinTake_len{l:List (List UInt8)} (i:Nat):(joinL (l.take i)).length≤(l.map fun x=>x.length+1).sum:=by
 have h1:=join_len (l.take i)
 have h2:((l.take i).map fun x=>x.length+1).sum≤(l.map fun x=>x.length+1).sum:=by
  conv=>rhs;rw[←take_append_drop i l]
  rw[map_append,sum_append]
  omega
 omega
set_option maxHeartbeats 2000000 in
theorem refPath_spec{u:Value}{ps:List (List UInt8)}{S:List Nat}{Lp:OL} (w0:World) (hu:OwnSl 9 1 u ps.length (strs ps) Lp) (hs:Step S Lp w0 w0) (hbd:(ps.map fun x=>x.length+1).sum≤9000000):CP 184 #[u] w0 (Ret0 (str (joinL ps)) w0):=by
 have hs0:Step [] [] w0 w0:=Step.refl w0
 have hform:=hu.form
 obtain⟨a,c,hq2⟩:=hform
 subst hq2
 have hpl:ps.length≤(ps.map fun x=>x.length+1).sum:=by
  clear hbd hu hs
  induction ps with
  | nil=>simp
  | cons x ps ih=>simp;omega
 have hbase:ps=[]∨∃bp,a=some ⟨bp,0,none⟩∧∀i p,ps[i]?=some p→w0.cell? ⟨bp,0+i*1,none⟩=some (str p):=by
  by_cases h0:ps=[]
  ·exact .inl h0
  ·right
   have ob:=hu.some1 (length_pos_iff.2 h0)
   obtain⟨bp,cp,more,hq1,hqL,hcp⟩:=ob
   cases hq1
   subst hqL
   refine⟨bp,rfl,fun i p hpi=>?_⟩
   have hlt:=(List.getElem?_eq_some_iff.1 hpi).1
   rw[cell_blk hs.hd,Nat.zero_add,Nat.mul_one,getElem?_append_left (by rw[strs_len];exact hlt)]
   simp[strs,hpi]
 have hcl:ps.length≤c:=by
  rcases hbase with h | ⟨bp,rfl,_⟩
  ·rw[h];simp
  ·by_cases h0:ps=[]
   ·rw[h0];simp
   ·have ob:=hu.some1 (length_pos_iff.2 h0)
    obtain⟨bp,cp,more,hq1,hqL,hcp⟩:=ob
    cases hq1
    rw[length_append,strs_len] at hcp
    omega
 refine calls (n:=22) Tryz.func184 rfl rfl rfl ?_
 refine sr<|wA<|wZ<|sr<|wA<|wZ<|cq<|sr<|wA<|wZ<|cB ?_
 refine CW.loop (fun m f w'=>∃i,i≤ps.length∧m=ps.length - i∧w'=w0∧Holds f [(0,.slice a ps.length c),(3,str (joinL (ps.take i))),(4,.int .i64 i)]) (m:=ps.length) ?_ ?_
 ·exact⟨0,by omega,by omega,rfl,rfl,rfl,rfl,trivial⟩
 ·rintro m f w ⟨i,hi,rfl,rfl,hf⟩
  have hs:Step [] [] w w:=Step.refl w
  have ob:=hf.chain
  obtain⟨g,rfl⟩:=ob
  by_cases hlt:i<ps.length
  ·rcases hbase with h | ⟨bp,rfl,hcells⟩
   ·rw[h] at hlt;cases hlt
   have ob:∃p,ps[i]?=some p:=⟨_,getElem?_eq_getElem hlt⟩
   obtain⟨p,hpi⟩:=ob
   have hcell:=hcells i p hpi
   have hjt:=joinL_take hpi
   have hl1:=joinTake_len (l:=ps) i
   have hl2:=joinTake_len (l:=ps) (i+1)
   refine cq<|sr<|wm<|wm<|wL u256 rfl<|lT<|wZ ?_
   by_cases h0:0<i
   ·rw[if_pos h0] at hjt
    have hl3:=congrArg List.length hjt
    rw[length_append,length_append] at hl3
    simp only[length_cons,length_nil] at hl3
    refine cT rfl<|ck<|cq<|cB<|cq<|sr<|wm<|xT<|wZ<|cT rfl<|cr<|wm<|wV (run_strAdd rfl rfl ((by simp only[length_cons,length_nil];omega)))<|wA<|wZ<|cr<|wm<|wm<|wm<|wI u256 ty9 rfl rfl<|wl ty9 rfl (hcell)<|wV (run_strAdd rfl rfl ((by simp only[length_append,length_cons,length_nil];omega)))<|wA<|wZ<|cr<|wm<|wP ((i+1:Nat):Int)<|wA<|wZ ?_
    rw[hjt.symm]
    refine(show _∧_ from⟨rfl,_,?_,i+1,by omega,rfl,rfl,rfl,rfl,rfl,trivial⟩)
    omega
   ·rw[if_neg h0] at hjt
    have hl3:=congrArg List.length hjt
    rw[length_append] at hl3
    refine cT rfl<|ck<|cq<|cB<|cq<|sr<|wm<|xF<|wZ<|cF rfl<|ck<|cr<|wm<|wm<|wm<|wI u256 ty9 rfl rfl<|wl ty9 rfl (hcell)<|wV (run_strAdd rfl rfl ((by omega)))<|wA<|wZ<|cr<|wm<|wP ((i+1:Nat):Int)<|wA<|wZ ?_
    refine(show _∧_ from⟨rfl,_,?_,i+1,by omega,rfl,rfl,rfl,by rw[hjt];rfl,rfl,trivial⟩)
    omega
  ·have hii:i=ps.length:=by omega
   refine cq<|sr<|wm<|wm<|wL u256 rfl<|lF<|wZ<|cF rfl<|CW.exit<|sr<|wm<|wA<|wZ ?_
   refine CW.ret ?_
   refine fin_ret1 rfl ?_
   rw[hii,take_length]
   exact⟨rfl,hs⟩
def isCleanL (s:(List UInt8)):Bool:=(partsL s).all isName && decide ((partsL s).length≤32)
theorem refIsClean_spec{s:U8} (w0:World) (hs1:s.length<4294967281):CP 149 #[str s] w0 (Ret0 (.bool (isCleanL s)) w0):=by
 have hs:Step [] [] w0 w0:=Step.refl w0
 have hpl:=partsL_len s
 have hple:∀p∈partsL s,p.length≤s.length:=fun p h=>partsL_le h
 refine calls (n:=22) Tryz.func149 rfl rfl rfl ?_
 refine sr<|wA<|wZ<|sr<|wm<|wE rfl (run_call en154 rfl rfl) (refParts_spec _ hs1) ?_
 rintro e w ⟨u,Lp,rfl,hu,hq⟩
 refine⟨_,rfl,?_⟩
 have hs:=hq
 have hform:=hu.form
 obtain⟨a,c,hq2⟩:=hform
 subst hq2
 refine wA<|wZ ?_
 have ob:∃ps,partsL s=ps:=⟨_,rfl⟩
 obtain⟨ps,hps⟩:=ob
 have hic:isCleanL s=(ps.all isName && decide (ps.length≤32)):=by rw[isCleanL,hps]
 rw[hps] at hpl hu hple
 rw[hic]
 refine cq<|sr<|wA<|wZ<|cB<|CW.loop (fun m f w'=>∃i,i≤ps.length∧m=ps.length - i∧(ps.all isName=(ps.drop i).all isName)∧Step [] Lp w0 w'∧Holds f [(3,.slice a ps.length c),(4,.int .i64 i)]) (m:=ps.length) ?_ ?_
 ·exact⟨0,by omega,by omega,rfl,hs,by rw[←hps];rfl,rfl,trivial⟩
 ·clear hs hq
  rintro m f w ⟨i,hi,rfl,hall,hs,hf⟩
  have ob:=hf.chain
  obtain⟨g,rfl⟩:=ob
  by_cases hlt:i<ps.length
  ·have ob:∃p,ps[i]=p:=⟨_,rfl⟩
   obtain⟨p,hp⟩:=ob
   rw[drop_eq_getElem_cons hlt,hp,all_cons] at hall
   have hpi:ps[i]?=some p:=by rw[getElem?_eq_getElem hlt,hp]
   have hpl1:=hple p (mem_of_getElem? hpi)
   have hsm:=hu.some1 (by omega)
   obtain⟨bp,cp,more,hq1,hqL,hcp⟩:=hsm
   cases hq1
   subst hqL
   have hcl:ps.length≤c:=by
    rw[length_append,strs_len] at hcp
    omega
   have hcell:w.cell? ⟨bp,0+i*1,none⟩=some (str p):=by
    rw[cell_blk hs.hd,Nat.zero_add,Nat.mul_one,getElem?_append_left (by rw[strs_len];exact hlt)]
    simp[strs,hpi]
   refine cq<|sr<|wm<|wm<|wL u256 rfl<|lT<|wZ ?_
   by_cases h4:isName p=false
   ·rw[h4,Bool.false_and] at hall
    refine cT rfl<|ck<|cq<|cB<|sr<|wm<|wm<|wI u256 ty9 rfl rfl<|wl ty9 rfl (hcell)<|wE rfl (run_call en183 rfl rfl) (refIsName_spec h4 _ (by omega)) ?_
    rintro e w ⟨rfl,hq⟩
    refine⟨_,rfl,?_⟩
    replace hs:=hs.callE hq
    refine wN rfl<|wZ<|cT rfl<|sr<|wA<|wZ<|CW.ret ?_
    refine fin_ret1 rfl ?_
    rw[hall]
    exact⟨rfl,Step.dropR (L1:=[]) hs⟩
   ·have h5:isName p=true:=by simpa using h4
    rw[h5,Bool.true_and] at hall
    refine cT rfl<|ck<|cq<|cB<|sr<|wm<|wm<|wI u256 ty9 rfl rfl<|wl ty9 rfl (hcell)<|wE rfl (run_call en183 rfl rfl) (refIsName_spec h5 _ (by omega)) ?_
    rintro e w ⟨rfl,hq⟩
    refine⟨_,rfl,?_⟩
    replace hs:=hs.callE hq
    refine wN rfl<|wZ<|cF rfl<|ck<|cr<|wm<|wP ((i+1:Nat):Int)<|wA<|wZ<|(show _∧_ from⟨rfl,_,?_,i+1,by omega,rfl,hall,hs,rfl,rfl,trivial⟩)
    omega
  ·have hii:i=ps.length:=by omega
   rw[hii,drop_length,all_nil] at hall
   rw[hall,Bool.true_and]
   by_cases h6:ps.length≤32
   ·rw[decide_eq_true h6]
    refine cq<|sr<|wm<|wm<|wL u256 rfl<|lF<|wZ<|cF rfl<|CW.exit<|sr<|wm<|wL u256 rfl<|iT<|wA<|wZ ?_
    refine CW.ret ?_
    refine fin_ret1 rfl ?_
    exact⟨rfl,Step.dropR (L1:=[]) hs⟩
   ·rw[decide_eq_false h6]
    refine cq<|sr<|wm<|wm<|wL u256 rfl<|lF<|wZ<|cF rfl<|CW.exit<|sr<|wm<|wL u256 rfl<|iF<|wA<|wZ ?_
    refine CW.ret ?_
    refine fin_ret1 rfl ?_
    exact⟨rfl,Step.dropR (L1:=[]) hs⟩
section
def cmpL (a b:(List UInt8)):Int:=if Op.bytesLess a b=true then -1 else if a=b then 0 else 1
def cmpF:List (List UInt8)→List (List UInt8)→Int
 | [],[]=>0
 | [],_::_=>-1
 | _::_,[]=>1
 | a::x,b::y=>if cmpL a b≠0 then cmpL a b else cmpF x y
theorem cellsOf{u:Value}{ps:List (List UInt8)}{Lp:OL}{S:List Nat}{w0 w:World} (hu:OwnSl 9 1 u ps.length (strs ps) Lp) (hs:Step S Lp w0 w):∃a c,u=.slice a ps.length c∧ps.length≤c∧(ps=[]∨∃bp,a=some ⟨bp,0,none⟩∧∀i p,ps[i]?=some p→w.cell? ⟨bp,0+i*1,none⟩=some (str p)):=by
 have ob:=hu.form
 obtain⟨a,c,rfl⟩:=ob
 by_cases h0:ps=[]
 ·exact⟨a,c,rfl,by rw[h0];simp,.inl h0⟩
 ·have ob:=hu.some1 (length_pos_iff.2 h0)
  obtain⟨bp,cp,more,hq1,hqL,hcp⟩:=ob
  cases hq1
  subst hqL
  refine⟨_,_,rfl,?_,.inr ⟨bp,rfl,fun i p hpi=>?_⟩⟩
  ·rw[length_append,strs_len] at hcp
   omega
  ·have hlt:=(List.getElem?_eq_some_iff.1 hpi).1
   rw[cell_blk hs.hd,Nat.zero_add,Nat.mul_one,getElem?_append_left (by rw[strs_len];exact hlt)]
   simp[strs,hpi]
theorem Sl0.keep{ps:List (List UInt8)}{a:Option Addr}{L:OL}{w w':World} (h:ps=[]∨∃bp,a=some ⟨bp,0,none⟩∧∀i p,ps[i]?=some p→w.cell? ⟨bp,0+i*1,none⟩=some (str p)) (hs:Step [] L w w'):ps=[]∨∃bp,a=some ⟨bp,0,none⟩∧∀i p,ps[i]?=some p→w'.cell? ⟨bp,0+i*1,none⟩=some (str p):=by
 rcases h with h | ⟨bp,h1,h2⟩
 ·exact .inl h
 ·refine .inr ⟨bp,h1,fun i p hpi=>?_⟩
  have h3:=h2 i p hpi
  have hlx:bp<w.heap.size:=Nat.lt_of_not_le fun hge=>by
   simp[World.cell?,Array.getElem?_eq_none hge] at h3
  rw[cell_of_heap (hs.chg.block bp hlx (by simp))]
  exact h3
theorem cmpF_eq (p:U8) (x y:List (List UInt8)):cmpF (p::x) (p::y)=cmpF x y:=by
 have h:cmpL p p=0:=by
  unfold cmpL
  split
  ·rename_i h
   exact absurd ((cmp_lt p p).2 h) (by rw[(cmp_eq0 p p).2 rfl];decide)
  ·rw[if_pos rfl]
 rw[cmpF,if_neg (by simp[h])]
theorem cmpF_ne{p q:U8} (x y:List (List UInt8)) (h:p≠q):decide (cmpF (p::x) (q::y)<0)=Op.bytesLess p q:=by
 rw[cmpF]
 by_cases h1:Op.bytesLess p q=true
 ·have e:cmpL p q = -1:=by rw[cmpL,if_pos h1]
  rw[e,h1];rfl
 ·have e:cmpL p q=1:=by rw[cmpL,if_neg h1,if_neg h]
  rw[e]
  have:Op.bytesLess p q=false:=by simpa using h1
  rw[this];rfl
theorem keepCell{b o:Nat}{v:Value}{L:OL}{w w':World} (h:w.cell? ⟨b,o,none⟩=some v) (hs:Step [] L w w'):w'.cell? ⟨b,o,none⟩=some v:=by
 have hlx:b<w.heap.size:=Nat.lt_of_not_le fun hge=>by
  simp[World.cell?,Array.getElem?_eq_none hge] at h
 rw[cell_of_heap (hs.chg.block b hlx (by simp))]
 exact h
set_option maxHeartbeats 2000000 in
theorem refLess_spec{s t:U8} (w0:World) (hs1:s.length<4294967281) (ht1:t.length<4294967281):CP 150 #[str s,str t] w0 (Ret0 (.bool (decide (cmpF (partsL s) (partsL t)<0))) w0):=by
 have hs:Step [] [] w0 w0:=Step.refl w0
 have hpl:=partsL_len s
 have hpt:=partsL_len t
 refine calls (n:=47) Tryz.func150 rfl rfl rfl ?_
 refine sr<|wA<|wZ<|sr<|wm<|wE rfl (run_call en154 rfl rfl) (refParts_spec _ hs1) ?_
 rintro e w ⟨u,Lu,rfl,hu,hq⟩
 refine⟨_,rfl,?_⟩
 have hs:=hq
 refine wA<|wZ<|sr<|wm<|wE rfl (run_call en154 rfl rfl) (refParts_spec _ ht1) ?_
 rintro e w ⟨u2,Lv,rfl,hv,hq2⟩
 refine⟨_,rfl,?_⟩
 have hxx:=cellsOf hu hs
 obtain⟨a,c,hq3,hcl,hcx⟩:=hxx
 subst hq3
 have hyy:=cellsOf hv hq2
 obtain⟨a2,c2,hq4,hcl2,hcy⟩:=hyy
 subst hq4
 have hcx2:=Sl0.keep hcx hq2
 replace hs:=hs.dropR (L1:=[])
 replace hs:=hs.call0 (hq2.dropR (L1:=[]))
 refine wA<|wZ<|cq<|sr<|wA<|wZ ?_
 have ob:∃x,partsL s=x:=⟨_,rfl⟩
 obtain⟨x,hx⟩:=ob
 have ob:∃y,partsL t=y:=⟨_,rfl⟩
 obtain⟨y,hy⟩:=ob
 rw[hx] at hpl hcl hcx2
 rw[hy] at hpt hcl2 hcy
 rw[hx,hy]
 have hs0:=hs
 refine cB<|CW.loop (fun m f w'=>∃i,i≤x.length∧m=x.length - i∧i≤y.length∧decide (cmpF x y<0)=decide (cmpF (x.drop i) (y.drop i)<0)∧Step [] [] w w'∧Holds f [(5,.slice a x.length c),(6,.slice a2 y.length c2),(7,.int .i64 i)]) (m:=x.length) ?_ ?_
 ·exact⟨0,by omega,by omega,by omega,rfl,Step.refl _,by rw[←hx];rfl,by rw[←hy];rfl,rfl,trivial⟩
 ·clear hs
  rintro m f w' ⟨i,hi,rfl,hiy,hgo,hs,hf⟩
  have ob:=hf.chain
  obtain⟨g,rfl⟩:=ob
  by_cases hlt:i<x.length
  ·rcases hcx2 with h | ⟨bx,rfl,hcx2⟩
   ·rw[h] at hlt;cases hlt
   have ob:∃p,x[i]=p:=⟨_,rfl⟩
   obtain⟨p,hp⟩:=ob
   have hc1:∀{w'':World},Step [] [] w w''→w''.cell? ⟨bx,0+i*1,none⟩=some (str p):=fun hs=>keepCell (hcx2 i p (by rw[getElem?_eq_getElem hlt,hp])) hs
   rw[drop_eq_getElem_cons hlt,hp] at hgo
   by_cases hly:i<y.length
   ·rcases hcy with h | ⟨by',rfl,hcy⟩
    ·rw[h] at hly;cases hly
    have ob:∃q,y[i]=q:=⟨_,rfl⟩
    obtain⟨q,hq⟩:=ob
    have hc2:∀{w'':World},Step [] [] w w''→w''.cell? ⟨by',0+i*1,none⟩=some (str q):=fun hs=>keepCell (hcy i q (by rw[getElem?_eq_getElem hly,hq])) hs
    rw[drop_eq_getElem_cons hly,hq] at hgo
    by_cases hpq:p=q
    ·rw[hpq,cmpF_eq] at hgo
     refine cq<|sr<|wm<|wm<|wL u256 rfl<|lT<|wm<|wy<|wm<|wy<|wm<|wy<|wL u256 rfl<|wy<|lT<|pT<|wZ ?_
     refine cT rfl<|ck<|cq<|cB<|cq<|CW.quiet mixedP (by kernel_rfl) hs ?_
     refine qm<|qm<|qI u256 ty9 rfl rfl<|qL ty9 rfl (fun w hs=>hc1 hs)<|qm<|qm<|qI u256 ty9 rfl rfl<|qL ty9 rfl (fun w hs=>hc2 hs)<|qV (fun w hs=>run_bF (run_strNe rfl rfl) (by(exact fun h=>h hpq)))<|QL.nil (fun w hs=>?_)
     refine cF rfl<|ck<|cr<|wm<|wP ((i+1:Nat):Int)<|wA<|wZ<|(show _∧_ from⟨rfl,_,?_,i+1,by omega,rfl,by omega,hgo,hs,rfl,rfl,rfl,trivial⟩)
     omega
    ·rw[cmpF_ne _ _ hpq] at hgo
     refine cq<|sr<|wm<|wm<|wL u256 rfl<|lT<|wm<|wy<|wm<|wy<|wm<|wy<|wL u256 rfl<|wy<|lT<|pT<|wZ ?_
     refine cT rfl<|ck<|cq<|cB<|cq<|CW.quiet mixedP (by kernel_rfl) hs ?_
     refine qm<|qm<|qI u256 ty9 rfl rfl<|qL ty9 rfl (fun w hs=>hc1 hs)<|qm<|qm<|qI u256 ty9 rfl rfl<|qL ty9 rfl (fun w hs=>hc2 hs)<|qV (fun w hs=>run_bT (run_strNe rfl rfl) (by exact hpq))<|QL.nil (fun w hs=>?_)
     refine cT rfl<|cq<|CW.quiet mixedP (by kernel_rfl) hs ?_
     refine qm<|qm<|qI u256 ty9 rfl rfl<|qL ty9 rfl (fun w hs=>hc1 hs)<|qm<|qm<|qI u256 ty9 rfl rfl<|qL ty9 rfl (fun w hs=>hc2 hs)<|qV (fun w hs=>run_bE (run_strLt rfl rfl) (rfl))<|qA<|QL.nil (fun w hs=>?_)
     refine CW.ret ?_
     refine fin_ret1 rfl ?_
     exact⟨by rw[hgo];rfl,hs0.callE hs⟩
   ·rw[drop_eq_nil_of_le (by omega:y.length≤i),cmpF] at hgo
    refine cq<|sr<|wm<|wm<|wL u256 rfl<|lT<|wm<|wy<|wm<|wy<|wm<|wy<|wL u256 rfl<|wy<|lF<|pT<|wZ ?_
    refine cF rfl<|CW.exit<|sr<|wm<|wL u256 rfl<|wm<|wL u256 rfl<|lF<|wA<|wZ<|CW.ret ?_
    refine fin_ret1 rfl ?_
    exact⟨by rw[hgo];rfl,hs0.callE hs⟩
  ·have hii:i=x.length:=by omega
   rw[drop_eq_nil_of_le (by omega:x.length≤i)] at hgo
   by_cases hly:i<y.length
   ·rw[drop_eq_getElem_cons hly,cmpF] at hgo
    refine cq<|sr<|wm<|wm<|wL u256 rfl<|lF<|wm<|wz<|wz<|wz<|wz<|pF<|wZ ?_
    refine cF rfl<|CW.exit<|sr<|wm<|wL u256 rfl<|wm<|wL u256 rfl<|lT<|wA<|wZ<|CW.ret ?_
    refine fin_ret1 rfl ?_
    exact⟨by rw[hgo];rfl,hs0.callE hs⟩
   ·rw[drop_eq_nil_of_le (by omega:y.length≤i),cmpF] at hgo
    refine cq<|sr<|wm<|wm<|wL u256 rfl<|lF<|wm<|wz<|wz<|wz<|wz<|pF<|wZ ?_
    refine cF rfl<|CW.exit<|sr<|wm<|wL u256 rfl<|wm<|wL u256 rfl<|lF<|wA<|wZ<|CW.ret ?_
    refine fin_ret1 rfl ?_
    exact⟨by rw[hgo];rfl,hs0.callE hs⟩
end
def Texts (w:World) (a:Option Addr) (x:List (List UInt8)):Prop:=x=[]∨∃bp,a=some ⟨bp,0,none⟩∧∀i p,x[i]?=some p→w.cell? ⟨bp,0+i*1,none⟩=some (str p)
theorem Texts.get{w:World}{a:Option Addr}{x:List (List UInt8)} (h:Texts w a x){i:Nat} (hi:i<x.length):∃bp p,a=some ⟨bp,0,none⟩∧x[i]?=some p∧p∈x∧∀{L w'},Step [] L w w'→w'.cell? ⟨bp,0+i*1,none⟩=some (str p):=by
 rcases h with h | ⟨bp,h1,h2⟩
 ·rw[h] at hi;cases hi
 ·exact⟨bp,x[i],h1,getElem?_eq_getElem hi,getElem_mem hi,fun hs=>keepCell (h2 i _ (getElem?_eq_getElem hi)) hs⟩
def underL (x y:List (List UInt8)):Bool:=decide (x=y.take x.length)
theorem refUnder_spec{s t:U8} (w0:World) (hs1:s.length<4294967281) (ht1:t.length<4294967281):CP 153 #[str s,str t] w0 (Ret0 (.bool (underL (partsL s) (partsL t))) w0):=by
 have hpl:=partsL_len s
 have hpt:=partsL_len t
 refine calls (n:=32) Tryz.func153 rfl rfl rfl ?_
 refine sr<|wA<|wZ<|sr<|wm<|wE rfl (run_call en154 rfl rfl) (refParts_spec _ hs1) ?_
 rintro e w ⟨u,Lu,rfl,hu,hq⟩
 refine⟨_,rfl,?_⟩
 have hs:=hq
 refine wA<|wZ<|sr<|wm<|wE rfl (run_call en154 rfl rfl) (refParts_spec _ ht1) ?_
 rintro e w ⟨u2,Lv,rfl,hv,hq2⟩
 refine⟨_,rfl,?_⟩
 have hxx:=cellsOf hu hs
 obtain⟨a,c,hq3,hcl,hcx⟩:=hxx
 subst hq3
 have hyy:=cellsOf hv hq2
 obtain⟨a2,c2,hq4,hcl2,hcy⟩:=hyy
 subst hq4
 have hcx2:Texts _ _ _:=Sl0.keep hcx hq2
 replace hs:=hs.dropR (L1:=[])
 replace hs:=hs.call0 (hq2.dropR (L1:=[]))
 refine wA<|wZ ?_
 by_cases hle:(partsL s).length≤(partsL t).length
 ·refine cq<|sr<|wm<|wL u256 rfl<|wm<|wL u256 rfl<|xF<|wZ<|cF rfl<|ck<|cq<|sr<|wA<|wZ ?_
  have hs0:=hs
  refine cB<|CW.loop (fun m f w'=>∃i,i≤(partsL s).length∧m=(partsL s).length - i∧(partsL s).take i=(partsL t).take i∧Step [] [] w w'∧Holds f [(5,.slice a (partsL s).length c),(6,.slice a2 (partsL t).length c2),(7,.int .i64 i)]) (m:=(partsL s).length) ?_ ?_
  ·exact⟨0,by omega,by omega,by simp,Step.refl _,rfl,rfl,rfl,trivial⟩
  ·clear hs
   rintro m f w' ⟨i,hi,rfl,hsame,hs,hf⟩
   have ob:=hf.chain
   obtain⟨g,rfl⟩:=ob
   by_cases hlt:i<(partsL s).length
   ·have ob:=Texts.get hcx2 hlt
    obtain⟨bx,p,rfl,hpi,hpm,hcp⟩:=ob
    have ob:=Texts.get hcy (show i<(partsL t).length by omega)
    obtain⟨bq,q,rfl,hqi,hqm,hcq⟩:=ob
    by_cases hpq:p=q
    ·refine cq<|sr<|wm<|wm<|wL u256 rfl<|lT<|wZ<|cT rfl<|ck<|cq<|cB<|cq<|CW.quiet mixedP (by kernel_rfl) hs ?_
     refine qm<|qm<|qI u256 ty9 rfl rfl<|qL ty9 rfl (fun w hs=>hcp hs)<|qm<|qm<|qI u256 ty9 rfl rfl<|qL ty9 rfl (fun w hs=>hcq hs)<|qV (fun w hs=>run_bF (run_strNe rfl rfl) (by(exact fun h=>h hpq)))<|QL.nil (fun w hs=>?_)
     refine cF rfl<|ck<|cr<|wm<|wP ((i+1:Nat):Int)<|wA<|wZ<|(show _∧_ from⟨rfl,_,?_,i+1,by omega,rfl,?_,hs,rfl,rfl,rfl,trivial⟩)
     ·omega
     ·rw[take_add_one,take_add_one,hsame,hpi,hqi,hpq]
    ·refine cq<|sr<|wm<|wm<|wL u256 rfl<|lT<|wZ<|cT rfl<|ck<|cq<|cB<|cq<|CW.quiet mixedP (by kernel_rfl) hs ?_
     refine qm<|qm<|qI u256 ty9 rfl rfl<|qL ty9 rfl (fun w hs=>hcp hs)<|qm<|qm<|qI u256 ty9 rfl rfl<|qL ty9 rfl (fun w hs=>hcq hs)<|qV (fun w hs=>run_bT (run_strNe rfl rfl) (by exact hpq))<|QL.nil (fun w hs=>?_)
     refine cT rfl<|sr<|wA<|wZ<|CW.ret ?_
     refine fin_ret1 rfl ?_
     refine⟨congrArg (fun b=>Ending.returned (.bool b)) (show false=underL (partsL s) (partsL t) from(decide_eq_false fun h=>hpq ?_).symm),hs0.callE hs⟩
     have h1:=congrArg (·[i]?) h
     simp only[getElem?_take,if_pos hlt,hpi,hqi] at h1
     exact Option.some.inj h1
   ·obtain rfl:i=(partsL s).length:=by omega
    refine cq<|sr<|wm<|wm<|wL u256 rfl<|lF<|wZ<|cF rfl<|CW.exit<|sr<|wA<|wZ ?_
    refine CW.ret ?_
    refine fin_ret1 rfl ?_
    refine⟨congrArg (fun b=>Ending.returned (.bool b)) (show true=underL (partsL s) (partsL t) from(decide_eq_true ?_).symm),hs0.callE hs⟩
    rw[←hsame,take_length]
 ·refine cq<|sr<|wm<|wL u256 rfl<|wm<|wL u256 rfl<|xT<|wZ<|cT rfl<|sr<|wA<|wZ ?_
  refine CW.ret ?_
  refine fin_ret1 rfl ?_
  refine⟨congrArg (fun b=>Ending.returned (.bool b)) (show false=underL (partsL s) (partsL t) from(decide_eq_false fun h=>hle ?_).symm),hs⟩
  have:=congrArg List.length h
  rw[length_take] at this
  omega
end Go.Gx
namespace Go.Gx
open Go.Proofs List
theorem exists_cons' {α:Type}{l:List α}{n:Nat} (h:l.length=n+1):∃a t,l=a::t∧t.length=n:=by
 cases l with
 | nil=>simp at h
 | cons a t=>exact⟨a,t,rfl,by simpa using h⟩
theorem cells32{l:U8} (h:l.length=32):∃a0 a1 a2 a3 a4 a5 a6 a7 a8 a9 a10 a11 a12 a13 a14 a15 a16 a17 a18 a19 a20 a21 a22 a23 a24 a25 a26 a27 a28 a29 a30 a31,l=[a0,a1,a2,a3,a4,a5,a6,a7,a8,a9,a10,a11,a12,a13,a14,a15,a16,a17,a18,a19,a20,a21,a22,a23,a24,a25,a26,a27,a28,a29,a30,a31]:=by
 have ob:=exists_cons' h
 obtain⟨a0,l0,rfl,h0⟩:=ob
 have ob:=exists_cons' h0
 obtain⟨a1,l1,rfl,h1⟩:=ob
 have ob:=exists_cons' h1
 obtain⟨a2,l2,rfl,h2⟩:=ob
 have ob:=exists_cons' h2
 obtain⟨a3,l3,rfl,h3⟩:=ob
 have ob:=exists_cons' h3
 obtain⟨a4,l4,rfl,h4⟩:=ob
 have ob:=exists_cons' h4
 obtain⟨a5,l5,rfl,h5⟩:=ob
 have ob:=exists_cons' h5
 obtain⟨a6,l6,rfl,h6⟩:=ob
 have ob:=exists_cons' h6
 obtain⟨a7,l7,rfl,h7⟩:=ob
 have ob:=exists_cons' h7
 obtain⟨a8,l8,rfl,h8⟩:=ob
 have ob:=exists_cons' h8
 obtain⟨a9,l9,rfl,h9⟩:=ob
 have ob:=exists_cons' h9
 obtain⟨a10,l10,rfl,h10⟩:=ob
 have ob:=exists_cons' h10
 obtain⟨a11,l11,rfl,h11⟩:=ob
 have ob:=exists_cons' h11
 obtain⟨a12,l12,rfl,h12⟩:=ob
 have ob:=exists_cons' h12
 obtain⟨a13,l13,rfl,h13⟩:=ob
 have ob:=exists_cons' h13
 obtain⟨a14,l14,rfl,h14⟩:=ob
 have ob:=exists_cons' h14
 obtain⟨a15,l15,rfl,h15⟩:=ob
 have ob:=exists_cons' h15
 obtain⟨a16,l16,rfl,h16⟩:=ob
 have ob:=exists_cons' h16
 obtain⟨a17,l17,rfl,h17⟩:=ob
 have ob:=exists_cons' h17
 obtain⟨a18,l18,rfl,h18⟩:=ob
 have ob:=exists_cons' h18
 obtain⟨a19,l19,rfl,h19⟩:=ob
 have ob:=exists_cons' h19
 obtain⟨a20,l20,rfl,h20⟩:=ob
 have ob:=exists_cons' h20
 obtain⟨a21,l21,rfl,h21⟩:=ob
 have ob:=exists_cons' h21
 obtain⟨a22,l22,rfl,h22⟩:=ob
 have ob:=exists_cons' h22
 obtain⟨a23,l23,rfl,h23⟩:=ob
 have ob:=exists_cons' h23
 obtain⟨a24,l24,rfl,h24⟩:=ob
 have ob:=exists_cons' h24
 obtain⟨a25,l25,rfl,h25⟩:=ob
 have ob:=exists_cons' h25
 obtain⟨a26,l26,rfl,h26⟩:=ob
 have ob:=exists_cons' h26
 obtain⟨a27,l27,rfl,h27⟩:=ob
 have ob:=exists_cons' h27
 obtain⟨a28,l28,rfl,h28⟩:=ob
 have ob:=exists_cons' h28
 obtain⟨a29,l29,rfl,h29⟩:=ob
 have ob:=exists_cons' h29
 obtain⟨a30,l30,rfl,h30⟩:=ob
 have ob:=exists_cons' h30
 obtain⟨a31,l31,rfl,h31⟩:=ob
 obtain rfl:=eq_nil_of_length_eq_zero h31
 exact⟨a0,a1,a2,a3,a4,a5,a6,a7,a8,a9,a10,a11,a12,a13,a14,a15,a16,a17,a18,a19,a20,a21,a22,a23,a24,a25,a26,a27,a28,a29,a30,a31,rfl⟩
structure Blb where
 d:(List UInt8)
 x:(List UInt8)
 st:Nat
structure AS where
 k:Nat
 cap:Nat
 last:Nat
 gets:Nat
 puts:Nat
 X:List Blb
def usedX (X:List Blb):Nat:=(X.map fun b=>b.x.length+32).sum
def findX (d:(List UInt8)) (X:List Blb):Option Blb:=X.find? fun b=>decide (b.d=d)
def insX (b:Blb):List Blb→List Blb
 | []=>[b]
 | c::X=>if c.d=b.d then b::X else if ltD b.d c.d then b::c::X else c::insX b X
def delX (d:(List UInt8)) (X:List Blb):List Blb:=X.filter fun b=>decide (b.d≠d)
abbrev SortedX (X:List Blb):Prop:=X.Pairwise fun a b=>ltD a.d b.d=true
structure AS.Ok (s:AS):Prop where
 k1:1≤s.k
 k2:s.k≤32
 cap:s.cap≤67108864
 sorted:SortedX s.X
 len:∀b∈s.X,b.d.length=32
 used:usedX s.X≤67108864
structure AS.Few (s:AS) (n:Nat):Prop where
 last:s.last≤n
 gets:s.gets≤n
 puts:s.puts≤n
theorem AS.Few.mono{s:AS}{n m:Nat} (h:s.Few n) (hm:n≤m):s.Few m:=⟨Nat.le_trans h.last hm,Nat.le_trans h.gets hm,Nat.le_trans h.puts hm⟩
theorem ltD_ne{a b:U8} (h:ltD a b=true):a≠b:=fun e=>by subst e;rw[ltD_irrefl] at h;cases h
theorem ltD_asymm{a b:U8} (h:ltD a b=true):ltD b a=false:=by
 cases h2:ltD b a with
 | false=>rfl
 | true=>have:=ltD_trans _ _ _ h h2;rw[ltD_irrefl] at this;cases this
theorem SortedX.nodup{X:List Blb} (h:SortedX X):(X.map (·.d)).Nodup:=by
 rw[nodup_iff_pairwise_ne,pairwise_map]
 exact h.imp fun h=>ltD_ne h
theorem usedX_perm{X Y:List Blb} (h:X.Perm Y):usedX X=usedX Y:=(h.map _).sum_nat
theorem usedX_cons (b:Blb) (X:List Blb):usedX (b::X)=b.x.length+32+usedX X:=by simp[usedX]
theorem used_mem{X:List Blb}{b:Blb} (h:b∈X):b.x.length+32≤usedX X:=by
 induction X with
 | nil=>cases h
 | cons c X ih=>
  rw[usedX_cons]
  rcases mem_cons.1 h with rfl | h
  ·omega
  ·have:=ih h;omega
theorem used_len (X:List Blb):32*X.length≤usedX X:=by
 induction X with
 | nil=>exact Nat.zero_le _
 | cons c X ih=>rw[usedX_cons,length_cons];omega
theorem findX_some{d:U8}{X:List Blb}{b:Blb} (h:findX d X=some b):b∈X∧b.d=d:=by
 have h1:=List.find?_some h
 exact⟨mem_of_find?_eq_some h,by simpa using h1⟩
theorem findX_none{d:U8}{X:List Blb} (h:findX d X=none):∀b∈X,b.d≠d:=by
 intro b hb he
 have:=List.find?_eq_none.1 h b hb
 simp[he] at this
theorem findX_mem{X:List Blb} (hn:(X.map (·.d)).Nodup){b:Blb} (hb:b∈X):findX b.d X=some b:=by
 induction X with
 | nil=>cases hb
 | cons c X ih=>
  rw[map_cons,nodup_cons] at hn
  rw[findX,List.find?_cons]
  by_cases hc:c.d=b.d
  ·rcases mem_cons.1 hb with rfl | hb
   ·simp
   ·exact absurd (hc▸mem_map_of_mem hb) hn.1
  ·simp only[hc,decide_false]
   rcases mem_cons.1 hb with rfl | hb
   ·exact absurd rfl hc
   ·exact ih hn.2 hb
theorem findX_perm{X Y:List Blb} (h:X.Perm Y) (hn:(Y.map (·.d)).Nodup) (d:U8):findX d X=findX d Y:=by
 have hn':(X.map (·.d)).Nodup:=(h.map _).nodup_iff.2 hn
 cases hx:findX d X with
 | some b=>
  have ob:=findX_some hx
  obtain⟨h1,rfl⟩:=ob
  exact(findX_mem hn (h.mem_iff.1 h1)).symm
 | none=>
  cases hy:findX d Y with
  | none=>rfl
  | some b=>
   have ob:=findX_some hy
   obtain⟨h1,h2⟩:=ob
   exact absurd h2 (findX_none hx b (h.mem_iff.2 h1))
theorem delX_none{d:U8}{X:List Blb} (h:findX d X=none):delX d X=X:=by
 rw[delX,filter_eq_self]
 intro b hb
 simpa using findX_none h b hb
theorem delX_perm{X Y:List Blb} (h:X.Perm Y) (d:U8):(delX d X).Perm (delX d Y):=h.filter _
theorem delX_some{X:List Blb} (hn:(X.map (·.d)).Nodup){d:U8}{b:Blb} (h:findX d X=some b):X.Perm (b::delX d X):=by
 induction X with
 | nil=>cases h
 | cons c X ih=>
  rw[map_cons,nodup_cons] at hn
  by_cases hc:c.d=d
  ·have:c=b:=by
    rw[findX,List.find?_cons] at h
    simpa[hc] using h
   subst this
   have hnn:findX d X=none:=by
    cases hx:findX d X with
    | none=>rfl
    | some e=>
     have ob:=findX_some hx
     obtain⟨h1,h2⟩:=ob
     exact absurd (by rw[hc,←h2];exact mem_map_of_mem h1) hn.1
   have hd:delX d (c::X)=X:=by
    rw[delX,filter_cons]
    simp only[hc,ne_eq,not_true_eq_false,decide_false,Bool.false_eq_true,if_false]
    exact delX_none hnn
   rw[hd]
  ·have hx:findX d X=some b:=by
    rw[findX,List.find?_cons] at h
    simp only[hc,decide_false] at h
    exact h
   have hd:delX d (c::X)=c::delX d X:=by
    rw[delX,filter_cons,if_pos (by simpa using hc)]
    rfl
   rw[hd]
   exact((ih hn.2 hx).cons c).trans (List.Perm.swap _ _ _)
theorem insX_perm (b:Blb):∀{X:List Blb},SortedX X→(insX b X).Perm (b::delX b.d X)
 | [],_=>List.Perm.refl _
 | c::X,h=>by
  rw[SortedX,pairwise_cons] at h
  rw[insX]
  by_cases hc:c.d=b.d
  ·rw[if_pos hc]
   have hd:delX b.d (c::X)=X:=by
    rw[delX,filter_cons]
    simp only[hc,ne_eq,not_true_eq_false,decide_false,Bool.false_eq_true,if_false]
    rw[filter_eq_self]
    intro e he
    have:=h.1 e he
    rw[hc] at this
    simpa using(ltD_ne this).symm
   rw[hd]
  ·rw[if_neg hc]
   have hd:delX b.d (c::X)=c::delX b.d X:=by
    rw[delX,filter_cons,if_pos (by simpa using hc)]
    rfl
   by_cases hl:ltD b.d c.d=true
   ·rw[if_pos hl,hd]
    have:delX b.d X=X:=by
     rw[delX,filter_eq_self]
     intro e he
     have h1:=ltD_trans _ _ _ hl (h.1 e he)
     simpa using(ltD_ne h1).symm
    rw[this]
   ·rw[if_neg hl,hd]
    exact((insX_perm b h.2).cons c).trans (List.Perm.swap _ _ _)
theorem insX_mem{b e:Blb}:∀{X:List Blb},e∈insX b X→e=b∨e∈X
 | [],h=>by rw[insX] at h;exact .inl (by simpa using h)
 | c::X,h=>by
  rw[insX] at h
  split at h
  ·rcases mem_cons.1 h with rfl | h
   ·exact .inl rfl
   ·exact .inr (by simp[h])
  ·split at h
   ·rcases mem_cons.1 h with rfl | h
    ·exact .inl rfl
    ·exact .inr h
   ·rcases mem_cons.1 h with rfl | h
    ·exact .inr (by simp)
    ·rcases insX_mem h with h | h
     ·exact .inl h
     ·exact .inr (by simp[h])
theorem insX_sorted (b:Blb):∀{X:List Blb},SortedX X→SortedX (insX b X)
 | [],_=>by simp[insX,SortedX]
 | c::X,h=>by
  have h0:=h
  rw[SortedX,pairwise_cons] at h
  rw[insX]
  by_cases hc:c.d=b.d
  ·rw[if_pos hc,SortedX,pairwise_cons]
   exact⟨fun e he=>by rw[←hc];exact h.1 e he,h.2⟩
  ·rw[if_neg hc]
   by_cases hl:ltD b.d c.d=true
   ·rw[if_pos hl,SortedX,pairwise_cons]
    refine⟨fun e he=>?_,h0⟩
    rcases mem_cons.1 he with rfl | he
    ·exact hl
    ·exact ltD_trans _ _ _ hl (h.1 e he)
   ·rw[if_neg hl,SortedX,pairwise_cons]
    refine⟨fun e he=>?_,insX_sorted b h.2⟩
    rcases insX_mem he with rfl | he
    ·cases h1:ltD c.d e.d with
     | true=>rfl
     | false=>exact absurd (ltD_tri _ _ h1 (by simpa using hl)) hc
    ·exact h.1 e he
theorem delX_sorted{X:List Blb} (h:SortedX X) (d:U8):SortedX (delX d X):=h.filter _
theorem used_ins{X:List Blb} (h:SortedX X) (b:Blb):usedX (insX b X)+(match findX b.d X with | some c=>c.x.length+32 | none=>0)=usedX X+(b.x.length+32):=by
 rw[usedX_perm (insX_perm b h),usedX_cons]
 cases hf:findX b.d X with
 | none=>rw[delX_none hf];simp only;omega
 | some c=>
  have:=usedX_perm (delX_some h.nodup hf)
  rw[usedX_cons] at this
  simp only
  omega
theorem used_del{X:List Blb} (h:SortedX X) (d:U8):usedX (delX d X)+(match findX d X with | some c=>c.x.length+32 | none=>0)=usedX X:=by
 cases hf:findX d X with
 | none=>rw[delX_none hf];rfl
 | some c=>
  have:=usedX_perm (delX_some h.nodup hf)
  rw[usedX_cons] at this
  simp only
  omega
def AS.lay (s:AS) (d x:(List UInt8)):Option AS:=if usedX (insX ⟨d,x,s.last+1⟩ s.X)≤s.cap then some { s with last:=s.last+1,X:=insX ⟨d,x,s.last+1⟩ s.X } else none
def AS.put (s:AS) (y:(List UInt8)):(List UInt8)×Nat×AS:=
 let s1:={ s with puts:=s.puts+1 }
 if 1048576<y.length then (zD,2,s1) else
 let d:=frontL y s.k
 let go:=match s1.lay d y with | some s2=>(d,0,s2) | none=>(zD,43,s1)
 match findX d s.X with
 | some b=>if b.x=y then (d,0,s1) else if frontL b.x s.k=d then (zD,44,s1) else go
 | none=>go
def AS.get (s:AS) (d:(List UInt8)):(List UInt8)×Nat:=
 match findX d s.X with
 | none=>([],41)
 | some b=>if frontL b.x s.k=d then (b.x,0) else ([],42)
def AS.got (s:AS):AS:={ s with gets:=s.gets+1 }
def AS.raw (s:AS) (d:(List UInt8)):(List UInt8):=match findX d s.X with | some b=>b.x | none=>[]
def AS.has (s:AS) (d:(List UInt8)):Bool:=(findX d s.X).isSome
def AS.whole (s:AS) (d:(List UInt8)):Bool:=match findX d s.X with | some b=>decide (frontL b.x s.k=d) | none=>false
def AS.stamp (s:AS) (d:(List UInt8)):Nat:=match findX d s.X with | some b=>b.st | none=>0
def AS.evict (s:AS) (d:(List UInt8)):AS:={ s with X:=delX d s.X }
def AS.plant (s:AS) (d y:(List UInt8)):Nat×AS:=
 if fitsL d s.k=false then (1,s) else if 1048576<y.length then (2,s) else
 match s.lay d y with | some s2=>(0,s2) | none=>(43,s)
def AS.limit (s:AS) (c:Int):Nat×AS:=if 0≤c∧c≤67108864 then (0,{ s with cap:=c.toNat }) else (1,s)
theorem AS.Ok.lay {s s':AS} (h:s.Ok){d x:U8} (hd:d.length=32) (hl:s.lay d x=some s'):s'.Ok:=by
 unfold AS.lay at hl
 split at hl
 ·rename_i hu
  obtain rfl:=(Option.some.inj hl).symm
  exact⟨h.k1,h.k2,h.cap,insX_sorted _ h.sorted,fun b hb=>by
   rcases insX_mem hb with rfl | hb
   ·exact hd
   ·exact h.len b hb,Nat.le_trans hu h.cap⟩
 ·cases hl
theorem AS.Ok.del{s:AS} (h:s.Ok) (d:U8):(s.evict d).Ok:=
 ⟨h.k1,h.k2,h.cap,delX_sorted h.sorted d,fun b hb=>h.len b ((mem_filter.1 hb).1),by
  have:=used_del h.sorted d
  have h2:=h.used
  show usedX (delX d s.X)≤_
  omega⟩
theorem AS.Ok.put{s:AS} (h:s.Ok) (y:U8):(s.put y).2.2.Ok:=by
 have h1:({ s with puts:=s.puts+1 }:AS).Ok:=⟨h.k1,h.k2,h.cap,h.sorted,h.len,h.used⟩
 have hgo:∀r:U8×Nat×AS,r=(match ({ s with puts:=s.puts+1 }:AS).lay (frontL y s.k) y with | some s2=>(frontL y s.k,0,s2) | none=>(zD,43,{ s with puts:=s.puts+1 }))→r.2.2.Ok:=by
  intro r hr
  cases hl:({ s with puts:=s.puts+1 }:AS).lay (frontL y s.k) y with
  | none=>rw[hl] at hr;rw[hr];exact h1
  | some s2=>rw[hl] at hr;rw[hr];exact h1.lay (frontL_len h.k2) hl
 unfold AS.put
 simp only
 split
 ·exact h1
 ·split
  ·split
   ·exact h1
   ·split
    ·exact h1
    ·exact hgo _ rfl
  ·exact hgo _ rfl
theorem AS.Ok.plant{s:AS} (h:s.Ok){d:U8} (hd:d.length=32) (y:U8):(s.plant d y).2.Ok:=by
 unfold AS.plant
 split
 ·exact h
 ·split
  ·exact h
  ·cases hl:s.lay d y with
   | none=>exact h
   | some s2=>exact h.lay hd hl
theorem AS.Few.lay {s s':AS}{n:Nat} (h:s.Few n){d x:U8} (hl:s.lay d x=some s'):s'.Few (n+1):=by
 unfold AS.lay at hl
 split at hl
 ·obtain rfl:=(Option.some.inj hl).symm
  exact⟨Nat.succ_le_succ h.last,Nat.le_succ_of_le h.gets,Nat.le_succ_of_le h.puts⟩
 ·cases hl
theorem AS.Few.put{s:AS}{n:Nat} (h:s.Few n) (y:U8):(s.put y).2.2.Few (n+1):=by
 have h1:({ s with puts:=s.puts+1 }:AS).Few (n+1):=⟨Nat.le_succ_of_le h.last,Nat.le_succ_of_le h.gets,Nat.succ_le_succ h.puts⟩
 have hgo:∀r:U8×Nat×AS,r=(match ({ s with puts:=s.puts+1 }:AS).lay (frontL y s.k) y with | some s2=>(frontL y s.k,0,s2) | none=>(zD,43,{ s with puts:=s.puts+1 }))→r.2.2.Few (n+1):=by
  intro r hr
  cases hl:({ s with puts:=s.puts+1 }:AS).lay (frontL y s.k) y with
  | none=>rw[hl] at hr;rw[hr];exact h1
  | some s2=>
   rw[hl] at hr;rw[hr]
   unfold AS.lay at hl
   split at hl
   ·obtain rfl:=(Option.some.inj hl).symm
    exact⟨Nat.succ_le_succ h.last,Nat.le_succ_of_le h.gets,Nat.succ_le_succ h.puts⟩
   ·cases hl
 unfold AS.put
 simp only
 split
 ·exact h1
 ·split
  ·split
   ·exact h1
   ·split
    ·exact h1
    ·exact hgo _ rfl
  ·exact hgo _ rfl
theorem AS.Few.plant{s:AS}{n:Nat} (h:s.Few n) (d y:U8):(s.plant d y).2.Few (n+1):=by
 unfold AS.plant
 split
 ·exact h.mono (Nat.le_succ _)
 ·split
  ·exact h.mono (Nat.le_succ _)
  ·cases hl:s.lay d y with
   | none=>exact h.mono (Nat.le_succ _)
   | some s2=>exact h.lay hl
theorem AS.Few.evict{s:AS}{n:Nat} (h:s.Few n) (d:U8):(s.evict d).Few n:=⟨h.last,h.gets,h.puts⟩
end Go.Gx
namespace Go.Gx
open Go.Proofs List
attribute [local irreducible] shaL cutD frontL
def Held (D:(List (Nat×Obj))) (v:Value) (x:(List UInt8)):Prop:=∃Lv,OwnSl 5 1 v x.length (u8s x) Lv∧∀p∈Lv,p∈D
theorem Held.mono {D D':OL}{v:Value}{x:U8} (h:Held D v x) (hD:∀p∈D,p∈D'):Held D' v x:=by
 obtain⟨Lv,h1,h2⟩:=h
 exact⟨Lv,h1,fun p hp=>hD p (h2 p hp)⟩
theorem Held.form{D:OL}{v:Value}{x:U8} (h:Held D v x):∃a c,v=.slice a x.length c:=by
 obtain⟨Lv,h1,h2⟩:=h
 exact h1.form
theorem Held.sl{D:OL}{v:Value}{x:U8}{w:World} (h:Held D v x) (hw:∀p∈D,w.heap[p.1]?=some p.2):Sl w 1 v x.length (u8s x):=by
 obtain⟨Lv,⟨hl,h1⟩,h2⟩:=h
 rcases h1 with⟨rfl,h0,rfl⟩ | ⟨b,cap,more,rfl,rfl,hc⟩
 ·rw[eq_nil_of_length_eq_zero h0];exact Sl.nil _ _ _
 ·exact .mk hl (At.of_blk (hw _ (h2 (b,blk 5 (u8s x++more)) (by simp)))).left
theorem Held.room{D:OL}{v:Value}{x:U8} (h:Held D v x):Room v:=by
 obtain⟨Lv,⟨hl,h1⟩,h2⟩:=h
 rcases h1 with⟨rfl,h0,rfl⟩ | ⟨b,cap,more,rfl,rfl,hc⟩
 ·exact Nat.le_refl _
 ·show x.length≤cap
  rw[length_append] at hc
  omega
theorem Held.out{D:OL}{v:Value}{x:U8} (h:Held D v x){S:List Nat} (hS:∀p∈D,p.1∉S):Outside v S:=by
 obtain⟨Lv,⟨hl,h1⟩,h2⟩:=h
 rcases h1 with⟨rfl,h0,rfl⟩ | ⟨b,cap,more,rfl,rfl,hc⟩
 ·trivial
 ·exact hS _ (h2 (b,blk 5 (u8s x++more)) (by simp))
def EntB (D:(List (Nat×Obj))) (p:MEnt) (b:Blb):Prop:=p.1=b.d∧∃v,p.2.1=.agg #[v,.int .i64 (b.st:Nat)]∧Held D v b.x
inductive View (D:(List (Nat×Obj))):List MEnt→List Blb→Prop
 | nil:View D [] []
 | cons{p:MEnt}{b:Blb}{M:List MEnt}{X:List Blb}:EntB D p b→View D M X→View D (p::M) (b::X)
section
variable {D D':OL}{M:List MEnt}{X:List Blb}{d:U8}
theorem EntB.mono{p:MEnt}{b:Blb} (h:EntB D p b) (hD:∀p∈D,p∈D'):EntB D' p b:=by
 obtain⟨h1,v,h2,h3⟩:=h
 exact⟨h1,v,h2,h3.mono hD⟩
theorem View.mono (h:View D M X) (hD:∀p∈D,p∈D'):View D' M X:=by
 induction h with
 | nil=>exact .nil
 | cons h _ ih=>exact .cons (h.mono hD) ih
theorem View.fst (h:View D M X):M.map (fun p=>p.1)=X.map (·.d):=by
 induction h with
 | nil=>rfl
 | cons h _ ih=>rw[map_cons,map_cons,ih,h.1]
theorem View.length (h:View D M X):M.length=X.length:=by
 have:=congrArg List.length h.fst
 simpa using this
theorem View.blobV (h:View D M X):∀p∈M,BlobV p.2.1:=by
 induction h with
 | nil=>intro p hp;cases hp
 | cons h _ ih=>
  intro q hq
  rcases mem_cons.1 hq with rfl | hq
  ·obtain⟨_,v,h2,h3⟩:=h
   have ob:=h3.form
   obtain⟨a,c,rfl⟩:=ob
   exact⟨a,_,c,_,h2⟩
  ·exact ih q hq
theorem View.append {M':List MEnt}{X':List Blb} (h:View D M X) (h':View D M' X'):View D (M++M') (X++X'):=by
 induction h with
 | nil=>exact h'
 | cons h _ ih=>exact .cons h ih
theorem View.find (h:View D M X) (d:U8):match findX d X with
  | none=>findD d M 0=none
  | some b=>∃i v,findD d M 0=some (i,.agg #[v,.int .i64 (b.st:Nat)])∧Held D v b.x:=by
 induction h with
 | nil=>rfl
 | @cons p b M X h _ ih=>
  obtain⟨h1,v,h2,h3⟩:=h
  rw[findX,List.find?_cons]
  by_cases hd:b.d=d
  ·simp only[hd,decide_true]
   refine⟨0,v,?_,h3⟩
   rw[findD,if_pos (by rw[h1,hd]),h2]
  ·simp only[hd,decide_false]
   have e:findD d (p::M) 0=(findD d M 0).map fun q=>(q.1+1,q.2):=by
    rw[findD,if_neg (by rw[h1];exact fun e=>hd e.symm),findD_shift]
   rw[e]
   have ih':=ih
   unfold findX at ih'
   cases hx:X.find? (fun b=>decide (b.d=d)) with
   | none=>rw[hx] at ih';simp only at ih'⊢;rw[ih'];rfl
   | some c=>
    rw[hx] at ih'
    obtain⟨i,v',hv,hh⟩:=ih'
    exact⟨i+1,v',by rw[hv];rfl,hh⟩
def upX (b:Blb):List Blb→List Blb
 | []=>[]
 | c::X=>if c.d=b.d then b::X else c::upX b X
theorem View.upd (h:View D M X){b:Blb}{v:Value} (hv:Held D v b.x):View D (updD b.d (.agg #[v,.int .i64 (b.st:Nat)]) M) (upX b X):=by
 induction h with
 | nil=>exact .nil
 | @cons p c M X h hM ih=>
  rw[updD,upX]
  by_cases hc:c.d=b.d
  ·rw[if_pos hc,if_pos (by rw[h.1];exact hc.symm)]
   exact .cons ⟨h.1.trans hc,v,rfl,hv⟩ hM
  ·rw[if_neg hc,if_neg (by rw[h.1];exact fun e=>hc e.symm)]
   exact .cons h ih
theorem upX_perm{b:Blb}:∀{X:List Blb},(X.map (·.d)).Nodup→(findX b.d X).isSome=true→(upX b X).Perm (b::delX b.d X)
 | [],_,h=>by cases h
 | c::X,hn,h=>by
  rw[map_cons,nodup_cons] at hn
  rw[upX]
  by_cases hc:c.d=b.d
  ·rw[if_pos hc]
   have hnn:findX b.d X=none:=by
    cases hx:findX b.d X with
    | none=>rfl
    | some e=>
     have ob:=findX_some hx
     obtain⟨h1,h2⟩:=ob
     exact absurd (by rw[hc,←h2];exact mem_map_of_mem h1) hn.1
   have hd:delX b.d (c::X)=X:=by
    rw[delX,filter_cons,if_neg (by simpa using hc)]
    exact delX_none hnn
   rw[hd]
  ·rw[if_neg hc]
   have hx:(findX b.d X).isSome=true:=by
    rw[findX,List.find?_cons] at h
    simp only[hc,decide_false] at h
    exact h
   have hd:delX b.d (c::X)=c::delX b.d X:=by
    rw[delX,filter_cons,if_pos (by simpa using hc)]
    rfl
   rw[hd]
   exact((upX_perm hn.2 hx).cons c).trans (List.Perm.swap _ _ _)
theorem View.put (h:View D M X) (hn:(X.map (·.d)).Nodup){b:Blb}{v:Value} (hv:Held D v b.x) (clock:Nat):∃X',View D (putM b.d (.agg #[v,.int .i64 (b.st:Nat)]) clock M) X'∧X'.Perm (b::delX b.d X):=by
 have hf:=h.find b.d
 rw[putM]
 cases hx:findX b.d X with
 | none=>
  rw[hx] at hf
  simp only at hf
  rw[hf]
  refine⟨X++[b],h.append (.cons ⟨rfl,v,rfl,hv⟩ .nil),?_⟩
  rw[delX_none hx]
  exact perm_append_comm (l₂:=[b])
 | some c=>
  rw[hx] at hf
  obtain⟨i,u,hf,_⟩:=hf
  rw[hf]
  exact⟨upX b X,h.upd hv,upX_perm hn (by rw[hx];rfl)⟩
theorem View.del (h:View D M X) (hn:(X.map (·.d)).Nodup) (d:U8):View D (delM d M) (delX d X):=by
 induction h with
 | nil=>exact .nil
 | @cons p c M X h hM ih=>
  rw[map_cons,nodup_cons] at hn
  rw[delM]
  by_cases hc:c.d=d
  ·have hnn:findX d X=none:=by
    cases hx:findX d X with
    | none=>rfl
    | some e=>
     have ob:=findX_some hx
     obtain⟨h1,h2⟩:=ob
     exact absurd (by rw[hc,←h2];exact mem_map_of_mem h1) hn.1
   have hd:delX d (c::X)=X:=by
    rw[delX,filter_cons,if_neg (by simpa using hc)]
    exact delX_none hnn
   rw[hd,if_pos (by rw[h.1];exact hc.symm)]
   exact hM
  ·have hd:delX d (c::X)=c::delX d X:=by
    rw[delX,filter_cons,if_pos (by simpa using hc)]
    rfl
   rw[hd,if_neg (by rw[h.1];exact fun e=>hc e.symm)]
   exact .cons h (ih hn.2)
end
theorem Born.put{M:List MEnt}{clock:Nat} (h:Born M clock) (d:U8) (v:Value):Born (putM d v clock M) (putC d clock M):=by
 rw[putM,putC]
 cases hf:(findD d M 0).isSome with
 | true=>
  simp only[if_true]
  have e:∀(M:List MEnt),(updD d v M).map (fun p=>p.2.2)=M.map (fun p=>p.2.2):=by
   intro M
   induction M with
   | nil=>rfl
   | cons p M ih=>
    rw[updD]
    split
    ·rfl
    ·rw[map_cons,map_cons,ih]
  refine⟨fun p hp=>?_,by rw[e];exact h.nodup⟩
  have:p.2.2∈(updD d v M).map (fun p=>p.2.2):=mem_map.2 ⟨p,hp,rfl⟩
  rw[e] at this
  have ob:=mem_map.1 this
  obtain⟨q,hq,hqe⟩:=ob
  rw[←hqe];exact h.lt q hq
 | false=>
  simp only[Bool.false_eq_true,if_false]
  refine⟨fun p hp=>?_,?_⟩
  ·rcases mem_append.1 hp with hp | hp
   ·have:=h.lt p hp;omega
   ·rw[mem_singleton.1 hp];simp
  ·rw[map_append,nodup_append]
   refine⟨h.nodup,by simp,fun a ha b hb=>?_⟩
   have ob:=mem_map.1 ha
   obtain⟨q,hq,rfl⟩:=ob
   have:=h.lt q hq
   simp at hb
   omega
theorem Born.del{M:List MEnt}{clock:Nat} (h:Born M clock) (d:U8):Born (delM d M) clock:=by
 have hsub:∀(M:List MEnt),(delM d M).Sublist M:=by
  intro M
  induction M with
  | nil=>exact List.Sublist.refl _
  | cons p M ih=>
   rw[delM]
   split
   ·exact sublist_cons_self _ _
   ·exact ih.cons_cons p
 exact⟨fun p hp=>h.lt p ((hsub M).subset hp),h.nodup.sublist ((hsub M).map _)⟩
def PRep (bs:Nat) (s:AS) (D L:(List (Nat×Obj))):Prop:=
 ∃m clock M X',L=[(bs,blk 140 (stC s.k s.cap (usedX s.X) s.last m s.gets s.puts)),(m,mapObj M clock)]∧View D M X'∧X'.Perm s.X∧Born M clock
theorem PRep.mono{bs:Nat}{s:AS}{D D' L:OL} (h:PRep bs s D L) (hD:∀p∈D,p∈D'):PRep bs s D' L:=by
 obtain⟨m,clock,M,X',h1,h2,h3,h4⟩:=h
 exact⟨m,clock,M,X',h1,h2.mono hD,h3,h4⟩
def Lives (L:(List (Nat×Obj))) (w:World):Prop:=Step (L.map (·.1)) L w w
theorem Lives.has{L:OL}{w:World} (h:Lives L w):∀p∈L,w.heap[p.1]?=some p.2:=Step.has h
theorem Lives.of{S:List Nat}{L1 L2:OL}{w w0:World} (h:Step S (L1++L2) w0 w):Lives L1 w:=Step.own h
theorem Lives.left{L1 L2:OL}{w:World} (h:Lives (L1++L2) w):Lives L1 w:=Step.own h
structure Open' (bs:Nat) (s:AS) (D L:(List (Nat×Obj))) (w:World) (m clock:Nat) (M:List MEnt) (X':List Blb):Prop where
 L:L=[(bs,blk 140 (stC s.k s.cap (usedX s.X) s.last m s.gets s.puts)),(m,mapObj M clock)]
 view:View D M X'
 perm:X'.Perm s.X
 born:Born M clock
 ne:bs≠m
 hb:w.heap[bs]?=some (blk 140 (stC s.k s.cap (usedX s.X) s.last m s.gets s.puts))
 hm:w.heap[m]?=some (mapObj M clock)
 out:∀p∈D,p.1∉[bs,m]
 dat:∀p∈D,w.heap[p.1]?=some p.2
 nodup:(X'.map (·.d)).Nodup
 keys:Keys32 M
theorem PRep.open{bs:Nat}{s:AS}{D L:OL}{w:World} (h:PRep bs s D L) (ok:s.Ok) (hw:Lives (L++D) w):∃m clock M X',Open' bs s D L w m clock M X':=by
 obtain⟨m,clock,M,X',rfl,h2,h3,h4⟩:=h
 have hn:=Step.nodup hw
 rw[map_append,nodup_append] at hn
 have hnd:(X'.map (·.d)).Nodup:=(h3.map _).nodup_iff.2 ok.sorted.nodup
 refine⟨m,clock,M,X',rfl,h2,h3,h4,by simpa using hn.1,hw.has (bs,blk 140 (stC s.k s.cap (usedX s.X) s.last m s.gets s.puts)) (by simp),hw.has (m,mapObj M clock) (by simp),fun p hp hb=>hn.2.2 p.1 (by simpa using hb) p.1 (mem_map_of_mem hp) rfl,fun p hp=>hw.has _ (by simp[hp]),hnd,?_⟩
 intro p hp
 have h1:p.1∈M.map (fun p=>p.1):=mem_map.2 ⟨p,hp,rfl⟩
 rw[h2.fst] at h1
 have ob:=mem_map.1 h1
 obtain⟨b,hb,hbe⟩:=ob
 rw[←hbe];exact ok.len b (h3.mem_iff.1 hb)
theorem Open'.look{bs:Nat}{s:AS}{D L:OL}{w:World}{m clock:Nat}{M:List MEnt}{X':List Blb} (o:Open' bs s D L w m clock M X') (ok:s.Ok) (d:U8) :
  match findX d s.X with
  | none=>findD d M 0=none
  | some b=>∃i a c,findD d M 0=some (i,.agg #[.slice a b.x.length c,.int .i64 (b.st:Nat)])∧Held D (.slice a b.x.length c) b.x:=by
 have h:=o.view.find d
 rw[findX_perm o.perm ok.sorted.nodup d] at h
 cases hx:findX d s.X with
 | none=>rw[hx] at h;exact h
 | some b=>
  rw[hx] at h
  obtain⟨i,v,h1,h2⟩:=h
  have ob:=h2.form
  obtain⟨a,c,rfl⟩:=ob
  exact⟨i,a,c,h1,h2⟩
section
variable{bs:Nat}{s:AS}{D L:OL}{w0:World}{d y:U8}{v:Value}{n:Nat}
theorem Lives.step0{L:OL}{w w':World} (h:Lives L w) (hs:Step [] [] w w'):Step (L.map (·.1)) L w w':=by
 have:=Step.call0 (L:=L) h hs
 simpa using this
theorem used_small (ok:s.Ok){b:Blb} (hb:findX d s.X=some b):b.x.length<1099511627776:=by
 have:=used_mem (findX_some hb).1
 have:=ok.used
 omega
theorem width_abs (hR:PRep bs s D L) (ok:s.Ok) (hw:Lives (L++D) w0):CP 69 #[pt bs] w0 (Ret0 (.int .i64 (s.k:Nat)) w0):=by
 have ob:=hR.open ok hw
 obtain⟨m,clock,M,X',o⟩:=ob
 exact width_spec w0 o.hb
theorem cap_abs (hR:PRep bs s D L) (ok:s.Ok) (hw:Lives (L++D) w0):CP 68 #[pt bs] w0 (Ret0 (.int .i64 (s.cap:Nat)) w0):=by
 have ob:=hR.open ok hw
 obtain⟨m,clock,M,X',o⟩:=ob
 exact cap_spec w0 o.hb
theorem used_abs (hR:PRep bs s D L) (ok:s.Ok) (hw:Lives (L++D) w0):CP 55 #[pt bs] w0 (Ret0 (.int .i64 (usedX s.X:Nat)) w0):=by
 have ob:=hR.open ok hw
 obtain⟨m,clock,M,X',o⟩:=ob
 exact used_spec w0 o.hb
theorem len_abs (hR:PRep bs s D L) (ok:s.Ok) (hw:Lives (L++D) w0):CP 29 #[pt bs] w0 (Ret0 (.int .i64 (s.X.length:Nat)) w0):=by
 have ob:=hR.open ok hw
 obtain⟨m,clock,M,X',o⟩:=ob
 have:=len_spec w0 o.hb o.hm
 rwa [o.view.length,o.perm.length_eq] at this
theorem stamp_abs (hR:PRep bs s D L) (ok:s.Ok) (hw:Lives (L++D) w0) (hd:d.length=32):CP 50 #[pt bs,.agg (u8s d).toArray] w0 (Ret0 (.int .i64 (s.stamp d:Nat)) w0):=by
 have ob:=hR.open ok hw
 obtain⟨m,clock,M,X',o⟩:=ob
 have hl:=o.look ok d
 unfold AS.stamp
 cases hx:findX d s.X with
 | none=>rw[hx] at hl;exact stamp_spec (st:=0) (n:=0) (c:=0) (a:=none) w0 o.hb o.hm o.keys hd (by rw[hl];rfl)
 | some b=>rw[hx] at hl;obtain⟨i,a,c,h1,h2⟩:=hl;exact stamp_spec w0 o.hb o.hm o.keys hd (by rw[h1];rfl)
theorem get_abs (hR:PRep bs s D L) (ok:s.Ok) (hfew:s.Few n) (hn:n<1099511627776) (hw:Lives (L++D) w0) (hd:d.length=32):CP 76 #[pt bs,.agg (u8s d).toArray] w0 fun e w'=>∃v' Lv L',e=.returned (.tuple #[v',.int .i64 ((s.get d).2:Nat)])∧OwnSl 5 1 v' (s.get d).1.length (u8s (s.get d).1) Lv∧PRep bs s.got D L'∧Step (L.map (·.1)) (L'++Lv) w0 w':=by
 have ob:=hR.open ok hw
 obtain⟨m,clock,M,X',o⟩:=ob
 have hl:=o.look ok d
 have hg:=hfew.gets
 have hP:PRep bs s.got D [(bs,blk 140 (stC s.k s.cap (usedX s.X) s.last m (s.gets+1) s.puts)),(m,mapObj M clock)]:=⟨m,clock,M,X',rfl,o.view,o.perm,o.born⟩
 rw[o.L]
 unfold AS.get
 cases hx:findX d s.X with
 | none=>
  rw[hx] at hl
  refine(get_missing o.ne w0 o.hb o.hm hd (by omega) o.keys hl).mono fun e w' ⟨h1,h2⟩=>?_
  exact⟨_,[],_,h1,OwnSl.nil _ _,hP,by simpa using h2⟩
 | some b=>
  rw[hx] at hl
  obtain⟨i,a,c,h1,h2⟩:=hl
  by_cases hk:frontL b.x s.k=d
  ·simp only[hk,if_true]
   refine(get_ok o.ne w0 o.hb o.hm hd (by omega) o.keys (by rw[h1];rfl) (by rw[h1];rfl) (h2.sl o.dat) (h2.out o.out) h2.room (used_small ok hx) ok.k1 ok.k2 hk).mono fun e w' ⟨v',Lv,h3,h4,h5⟩=>?_
   exact⟨v',Lv,_,h3,h4,hP,h5⟩
  ·simp only[hk,if_false]
   refine(get_corrupt o.ne w0 o.hb o.hm hd (by omega) o.keys (by rw[h1];rfl) (by rw[h1];rfl) (h2.sl o.dat) (h2.out o.out) h2.room (used_small ok hx) ok.k1 ok.k2 hk).mono fun e w' ⟨h3,h4⟩=>?_
   exact⟨_,[],_,h3,OwnSl.nil _ _,hP,by simpa using h4⟩
theorem evict_abs (hR:PRep bs s D L) (ok:s.Ok) (hw:Lives (L++D) w0) (hd:d.length=32):CP 34 #[pt bs,.agg (u8s d).toArray] w0 fun e w'=>∃L',e=.returned (.bool (s.has d))∧PRep bs (s.evict d) D L'∧Step (L.map (·.1)) L' w0 w':=by
 have ob:=hR.open ok hw
 obtain⟨m,clock,M,X',o⟩:=ob
 have hl:=o.look ok d
 unfold AS.has
 cases hx:findX d s.X with
 | none=>
  rw[hx] at hl
  refine(evict_no w0 o.hb o.hm o.keys hd hl).mono fun e w' ⟨h1,h2⟩=>?_
  have e1:s.evict d=s:=by unfold AS.evict;rw[delX_none hx]
  exact⟨L,h1,by rw[e1];exact hR,(Lives.left hw).step0 h2⟩
 | some b=>
  rw[hx] at hl
  obtain⟨i,a,c,h1,h2⟩:=hl
  have hu:=used_del ok.sorted d
  rw[hx] at hu
  simp only at hu
  have hok:=ok.used
  rw[o.L]
  refine(evict_yes o.ne w0 o.hb o.hm o.keys hd h1 (h2.sl o.dat) (used_small ok hx) (by omega) (by omega) (h2.out o.out)).mono fun e w' ⟨h3,h4⟩=>?_
  have e1:usedX s.X - (b.x.length+32)=usedX (delX d s.X):=by omega
  rw[e1] at h4
  exact⟨_,h3,⟨m,clock,delM d M,delX d X',rfl,o.view.del o.nodup d,delX_perm o.perm d,o.born.del d⟩,h4⟩
end
section
variable{bs:Nat}{s:AS}{D L:OL}{w0:World}{d y:U8}{v:Value}{n:Nat}
theorem laid_rep{m clock puts:Nat}{M:List MEnt}{X':List Blb}{v':Value}{Lv:OL} (hv:View D M X') (hp:X'.Perm s.X) (hB:Born M clock) (hs:SortedX s.X) (hO:OwnSl 5 1 v' y.length (u8s y) Lv) :
  PRep bs { s with last:=s.last+1,puts:=puts,X:=insX ⟨d,y,s.last+1⟩ s.X } (Lv++D)
   [(bs,blk 140 (stC s.k s.cap (usedX (insX ⟨d,y,s.last+1⟩ s.X)) (s.last+1) m s.gets puts)),(m,mapObj (putM d (.agg #[v',.int .i64 (s.last+1:Nat)]) clock M) (putC d clock M))]:=by
 have hn:(X'.map (·.d)).Nodup:=(hp.map _).nodup_iff.2 hs.nodup
 have ob:=(hv.mono (D':=Lv++D) (fun p hp=>mem_append_right _ hp)).put (b:=⟨d,y,s.last+1⟩) hn ⟨Lv,hO,fun p hp=>mem_append_left _ hp⟩ clock
 obtain⟨X2,h1,h2⟩:=ob
 exact⟨m,_,_,X2,rfl,h1,h2.trans (((delX_perm hp d).cons _).trans (insX_perm _ hs).symm),hB.put d _⟩
theorem put_abs (hR:PRep bs s D L) (ok:s.Ok) (hfew:s.Few n) (hn:n<1099511627776) (hw:Lives (L++D) w0) (hy:Sl w0 1 v y.length (u8s y)) (hr:Room v) (hO:OutE v y (L.map (·.1))) (hsy:y.length<1099511627776) :
  CP 36 #[pt bs,v] w0 fun e w'=>∃L' D',e=.returned (.tuple #[.agg (u8s (s.put y).1).toArray,.int .i64 ((s.put y).2.1:Nat)])∧PRep bs (s.put y).2.2 (D'++D) L'∧Step (L.map (·.1)) (L'++D') w0 w':=by
 have ob:=hR.open ok hw
 obtain⟨m,clock,M,X',o⟩:=ob
 rw[o.L] at hO⊢
 replace hO:OutE v y [bs,m]:=hO
 have hp:=hfew.puts
 have hla:=hfew.last
 have hfl:=frontL_len (x:=y) ok.k2
 have hl:=o.look ok (frontL y s.k)
 have hu:=used_ins ok.sorted ⟨frontL y s.k,y,s.last+1⟩
 simp only at hu
 have huse:=ok.used
 have hstay:∀(r:Value) (e:Ending) (w':World),(e=.returned r∧Step [bs,m] [(bs,blk 140 (stC s.k s.cap (usedX s.X) s.last m s.gets (s.puts+1))),(m,mapObj M clock)] w0 w')→∃L' D',e=.returned r∧PRep bs { s with puts:=s.puts+1 } (D'++D) L'∧Step ([(bs,blk 140 (stC s.k s.cap (usedX s.X) s.last m s.gets s.puts)),(m,mapObj M clock)].map (·.1)) (L'++D') w0 w':=by
  rintro r e w' ⟨h1,h2⟩
  exact⟨_,[],h1,⟨m,clock,M,X',rfl,o.view,o.perm,o.born⟩,by simpa using h2⟩
 unfold AS.put
 simp only
 by_cases hlong:1048576<y.length
 ·rw[if_pos hlong]
  exact(put_long o.ne w0 o.hb o.hm hy (by omega) hlong).mono (hstay _)
 ·rw[if_neg hlong]
  cases hx:findX (frontL y s.k) s.X with
  | none=>
   rw[hx] at hl hu
   simp only at hl hu⊢
   unfold AS.lay
   simp only
   refine(put_most (x:=[]) (a:=none) (c:=0) (st:=0) (b:=false) (N:=usedX (insX ⟨frontL y s.k,y,s.last+1⟩ s.X)) o.ne w0 o.hb o.hm o.keys (by rw[hl];rfl) (by rw[hl];rfl) (Sl.nil _ _ _) trivial (Nat.le_refl _) (by simp) hy hO hr (by omega) hsy (by omega) ok.k1 ok.k2 (by omega) (by omega) (fun h=>by cases h) (fun h=>by cases h) (fun _=>by omega)).mono ?_
   rintro e w' (⟨h,_⟩ | ⟨h,_⟩ | ⟨_,hc,h⟩ | ⟨_,hc,v',Lv,h1,h2,h3⟩)
   ·cases h
   ·cases h
   ·rw[if_neg (by omega)]
    exact hstay _ _ _ h
   ·rw[if_pos hc]
    exact⟨_,Lv,h1,laid_rep o.view o.perm o.born ok.sorted h2,h3⟩
  | some b=>
   rw[hx] at hl hu
   simp only at hu⊢
   obtain⟨i,a,c,h1,h2⟩:=hl
   have hub:=used_mem (findX_some hx).1
   unfold AS.lay
   simp only
   refine(put_most (b:=true) (N:=usedX (insX ⟨frontL y s.k,y,s.last+1⟩ s.X)) o.ne w0 o.hb o.hm o.keys (by rw[h1];rfl) (by rw[h1];rfl) (h2.sl o.dat) (h2.out o.out) h2.room (by omega) hy hO hr (by omega) hsy (by omega) ok.k1 ok.k2 (by omega) (by omega) (fun _=>hub) (fun _=>by omega) (fun h=>by cases h)).mono ?_
   rintro e w' (⟨_,hxy,h⟩ | ⟨_,hxy,hcl,h⟩ | ⟨hdi,hc,h⟩ | ⟨hdi,hc,v',Lv,h3,h4,h5⟩)
   ·rw[if_pos hxy]
    exact hstay _ _ _ h
   ·rw[if_neg hxy,if_pos hcl]
    exact hstay _ _ _ h
   ·rw[if_neg (hdi rfl).1,if_neg (hdi rfl).2,if_neg (by omega)]
    exact hstay _ _ _ h
   ·rw[if_neg (hdi rfl).1,if_neg (hdi rfl).2,if_pos hc]
    exact⟨_,Lv,h3,laid_rep o.view o.perm o.born ok.sorted h4,h5⟩
theorem plant_abs (hR:PRep bs s D L) (ok:s.Ok) (hfew:s.Few n) (hn:n<1099511627776) (hw:Lives (L++D) w0) (hd:d.length=32) (hy:Sl w0 1 v y.length (u8s y)) (hO:OutE v y (L.map (·.1))) (hsy:y.length<1099511627776) :
  CP 35 #[pt bs,.agg (u8s d).toArray,v] w0 fun e w'=>∃L' D',e=.returned (.int .i64 ((s.plant d y).1:Nat))∧PRep bs (s.plant d y).2 (D'++D) L'∧Step (L.map (·.1)) (L'++D') w0 w':=by
 have ob:=hR.open ok hw
 obtain⟨m,clock,M,X',o⟩:=ob
 rw[o.L] at hO⊢
 replace hO:OutE v y [bs,m]:=hO
 have hla:=hfew.last
 have hl:=o.look ok d
 have hu:=used_ins ok.sorted ⟨d,y,s.last+1⟩
 simp only at hu
 have huse:=ok.used
 have hP:∀w',Step [bs,m] [(bs,blk 140 (stC s.k s.cap (usedX s.X) s.last m s.gets s.puts)),(m,mapObj M clock)] w0 w'→∃L' D',PRep bs s (D'++D) L'∧Step [bs,m] (L'++D') w0 w':=fun w' h2=>⟨_,[],⟨m,clock,M,X',rfl,o.view,o.perm,o.born⟩,by simpa using h2⟩
 have hlv:=hw
 rw[o.L] at hlv
 have hstay0:∀w',Step [] [] w0 w'→∃L' D',PRep bs s (D'++D) L'∧Step [bs,m] (L'++D') w0 w':=fun w' h2=>hP w' ((Lives.left hlv).step0 h2)
 unfold AS.plant
 by_cases hf:fitsL d s.k=false
 ·rw[if_pos hf]
  refine(plant_arg w0 o.hb hd ok.k1 ok.k2 hf).mono fun e w' ⟨h1,h2⟩=>?_
  have ob:=hstay0 w' h2
  obtain⟨L',D',h3,h4⟩:=ob
  exact⟨L',D',h1,h3,h4⟩
 ·rw[if_neg hf]
  replace hf:fitsL d s.k=true:=by simpa using hf
  by_cases hlong:1048576<y.length
  ·rw[if_pos hlong]
   refine(plant_long o.ne w0 o.hb o.hm hd hf hy hsy hlong).mono fun e w' ⟨h1,h2⟩=>?_
   have ob:=hstay0 w' h2
   obtain⟨L',D',h3,h4⟩:=ob
   exact⟨L',D',h1,h3,h4⟩
  ·rw[if_neg hlong]
   unfold AS.lay
   cases hx:findX d s.X with
   | none=>
    rw[hx] at hl hu
    simp only at hl hu
    by_cases hc:usedX (insX ⟨d,y,s.last+1⟩ s.X)≤s.cap
    ·rw[if_pos hc]
     simp only
     refine(plant_ok (x:=[]) (a:=none) (n:=0) (c:=0) (st:=0) (b:=false) o.ne w0 o.hb o.hm hd hf o.keys (by rw[hl];rfl) (by rw[hl];rfl) hy hO hsy (by omega) (by simp) (by omega) (by omega) (fun h=>by cases h) (fun h=>by cases h) (fun _=>rfl) (by omega)).mono fun e w' ⟨v',Lv,h1,h2,h3⟩=>?_
     rw[show usedX s.X+(y.length+32)=usedX (insX ⟨d,y,s.last+1⟩ s.X) by omega] at h3
     exact⟨_,Lv,h1,laid_rep o.view o.perm o.born ok.sorted h2,h3⟩
    ·rw[if_neg hc]
     simp only
     refine(plant_full (x:=[]) (a:=none) (n:=0) (c:=0) (st:=0) (b:=false) o.ne w0 o.hb o.hm hd hf o.keys (by rw[hl];rfl) (by rw[hl];rfl) hy hO hsy (by omega) (by simp) (by omega) (fun h=>by cases h) (fun h=>by cases h) (fun _=>by omega)).mono fun e w' ⟨h1,h2⟩=>?_
     have ob:=hP w' h2
     obtain⟨L',D',h3,h4⟩:=ob
     exact⟨L',D',h1,h3,h4⟩
   | some b=>
    rw[hx] at hl hu
    simp only at hu
    obtain⟨i,a,c,h1,h2⟩:=hl
    have hub:=used_mem (findX_some hx).1
    by_cases hc:usedX (insX ⟨d,y,s.last+1⟩ s.X)≤s.cap
    ·rw[if_pos hc]
     simp only
     refine(plant_ok (x:=[]) (b:=true) o.ne w0 o.hb o.hm hd hf o.keys (by rw[h1];rfl) (by rw[h1];rfl) hy hO hsy (by omega) (by omega) (by omega) (by omega) (fun _=>hub) (fun _=>rfl) (fun h=>by cases h) (by omega)).mono fun e w' ⟨v',Lv,h3,h4,h5⟩=>?_
     rw[show usedX s.X+(y.length+32) - (b.x.length+32)=usedX (insX ⟨d,y,s.last+1⟩ s.X) by omega] at h5
     exact⟨_,Lv,h3,laid_rep o.view o.perm o.born ok.sorted h4,h5⟩
    ·rw[if_neg hc]
     simp only
     refine(plant_full (x:=[]) (b:=true) o.ne w0 o.hb o.hm hd hf o.keys (by rw[h1];rfl) (by rw[h1];rfl) hy hO hsy (by omega) (by omega) (by omega) (fun _=>hub) (fun _=>by omega) (fun h=>by cases h)).mono fun e w' ⟨h3,h4⟩=>?_
     have ob:=hP w' h4
     obtain⟨L',D',h5,h6⟩:=ob
     exact⟨L',D',h3,h5,h6⟩
def newS (k c:Nat):AS:=⟨k,c,0,0,0,[]⟩
theorem newS_ok{k c:Nat} (hk1:1≤k) (hk:k≤32) (hc:c≤67108864):(newS k c).Ok:=⟨hk1,hk,hc,List.Pairwise.nil,fun b hb=>(by cases hb),(by simp[newS,usedX])⟩
theorem newS_few{k c:Nat}:(newS k c).Few 0:=⟨Nat.le_refl _,Nat.le_refl _,Nat.le_refl _⟩
theorem new_abs{k c:Nat} (hk1:1≤k) (hk:k≤32) (hc:c≤67108864) (w:World):CP 56 #[.int .i64 k,.int .i64 c] w fun e w'=>∃bs L',e=.returned (.tuple #[pt bs,.int .i64 0])∧PRep bs (newS k c) [] L'∧Step [] L' w w':=
 (new_ok hk1 hk hc w).mono fun e w' ⟨bs,m,h1,h2⟩=>⟨bs,_,h1,⟨m,0,[],[],rfl,.nil,List.Perm.refl _,⟨fun p hp=>(by cases hp),(by simp)⟩⟩,h2⟩
end
def posX (d:(List UInt8)):List Blb→Nat
 | []=>0
 | b::X=>if ltD b.d d=true then posX d X+1 else 0
theorem posX_le (d:U8):∀X,posX d X≤X.length
 | []=>Nat.le_refl _
 | b::X=>by
  rw[posX]
  split
  ·have:=posX_le d X;simp only[length_cons];omega
  ·exact Nat.zero_le _
theorem posX_drop (d:U8):∀(X:List Blb) (i:Nat),i≤X.length→(∀j b,j<i→X[j]?=some b→ltD b.d d=true)→posX d X=i+posX d (X.drop i)
 | X,0,_,_=>by simp
 | [],i+1,h,_=>by simp at h
 | b::X,i+1,h,hl=>by
  rw[posX,if_pos (hl 0 b (by omega) rfl),posX_drop d X i (by simpa using h) (fun j c hj hc=>hl (j+1) c (by omega) (by simpa using hc))]
  simp only[drop_succ_cons]
  omega
theorem posX_at{d:U8}{X:List Blb}{i:Nat}{b:Blb} (h:X[i]?=some b) (hl:ltD b.d d=false):posX d (X.drop i)=0:=by
 have ob:=List.getElem?_eq_some_iff.1 h
 obtain⟨hlt,rfl⟩:=ob
 rw[drop_eq_getElem_cons hlt,posX,if_neg (by rw[hl];simp)]
theorem pos_find{d:U8}:∀{X:List Blb},SortedX X→(X[posX d X]?).bind (fun b=>if b.d=d then some b else none)=findX d X
 | [],_=>rfl
 | b::X,h=>by
  rw[SortedX,pairwise_cons] at h
  rw[posX,findX,List.find?_cons]
  by_cases hl:ltD b.d d=true
  ·rw[if_pos hl,getElem?_cons_succ,pos_find h.2]
   have:b.d≠d:=ltD_ne hl
   simp only[this,decide_false]
   rfl
  ·rw[if_neg hl]
   simp only[getElem?_cons_zero,Option.bind_some]
   by_cases he:b.d=d
   ·simp[he]
   ·simp only[he,if_false,decide_false]
    have hlt:ltD d b.d=true:=by
     cases h2:ltD d b.d with
     | true=>rfl
     | false=>exact absurd (ltD_tri _ _ (by simpa using hl) h2) he
    symm
    rw[List.find?_eq_none]
    intro c hc
    have:=ltD_trans _ _ _ hlt (h.1 c hc)
    simpa using(ltD_ne this).symm
theorem pos_some{d:U8}{X:List Blb} (h:SortedX X){c:Blb} (hf:findX d X=some c):X[posX d X]?=some c∧c.d=d:=by
 have h1:=pos_find (d:=d) h
 rw[hf] at h1
 cases hx:X[posX d X]? with
 | none=>rw[hx] at h1;cases h1
 | some b=>
  rw[hx] at h1
  simp only[Option.bind_some] at h1
  split at h1
  ·rename_i he
   obtain rfl:=Option.some.inj h1
   exact⟨rfl,he⟩
  ·cases h1
theorem ins_there{b:Blb}:∀{X:List Blb},SortedX X→(findX b.d X).isSome=true→insX b X=X.set (posX b.d X) b
 | [],_,h=>by cases h
 | c::X,h,hf=>by
  rw[SortedX,pairwise_cons] at h
  rw[insX,posX]
  by_cases hc:c.d=b.d
  ·rw[if_pos hc,if_neg (by rw[hc,ltD_irrefl];simp)]
   rfl
  ·rw[if_neg hc]
   rw[findX,List.find?_cons] at hf
   simp only[hc,decide_false] at hf
   by_cases hl:ltD b.d c.d=true
   ·exfalso
    have ob:=Option.isSome_iff_exists.1 hf
    obtain⟨e,he⟩:=ob
    have hm:=mem_of_find?_eq_some he
    have h1:=List.find?_some he
    have:=ltD_ne (ltD_trans _ _ _ hl (h.1 e hm))
    simp at h1
    exact this h1.symm
   ·rw[if_neg hl]
    have hcb:ltD c.d b.d=true:=by
     cases h2:ltD c.d b.d with
     | true=>rfl
     | false=>exact absurd (ltD_tri _ _ h2 (by simpa using hl)) hc
    rw[if_pos hcb,ins_there h.2 hf]
    rfl
theorem ins_new{b:Blb}:∀{X:List Blb},SortedX X→findX b.d X=none→insX b X=X.take (posX b.d X)++b::X.drop (posX b.d X)
 | [],_,_=>rfl
 | c::X,h,hf=>by
  rw[SortedX,pairwise_cons] at h
  rw[insX,posX]
  by_cases hc:c.d=b.d
  ·rw[findX,List.find?_cons] at hf
   simp[hc] at hf
  ·rw[if_neg hc]
   rw[findX,List.find?_cons] at hf
   simp only[hc,decide_false] at hf
   by_cases hl:ltD b.d c.d=true
   ·rw[if_pos hl,if_neg (by rw[ltD_asymm hl];simp)]
    rfl
   ·rw[if_neg hl]
    have hcb:ltD c.d b.d=true:=by
     cases h2:ltD c.d b.d with
     | true=>rfl
     | false=>exact absurd (ltD_tri _ _ h2 (by simpa using hl)) hc
    rw[if_pos hcb,ins_new h.2 hf]
    rfl
theorem del_pos{d:U8}:∀{X:List Blb},SortedX X→(findX d X).isSome=true→delX d X=X.take (posX d X)++X.drop (posX d X+1)
 | [],_,h=>by cases h
 | c::X,h,hf=>by
  rw[SortedX,pairwise_cons] at h
  rw[posX]
  by_cases hc:c.d=d
  ·have hd:delX d (c::X)=X:=by
    rw[delX,filter_cons,if_neg (by simpa using hc),filter_eq_self]
    intro e he
    have:=h.1 e he
    rw[hc] at this
    simpa using(ltD_ne this).symm
   rw[hd,if_neg (by rw[hc,ltD_irrefl];simp)]
   rfl
  ·rw[findX,List.find?_cons] at hf
   simp only[hc,decide_false] at hf
   have hd:delX d (c::X)=c::delX d X:=by
    rw[delX,filter_cons,if_pos (by simpa using hc)]
    rfl
   have hl:ltD c.d d=true:=by
    have ob:=Option.isSome_iff_exists.1 hf
    obtain⟨e,he⟩:=ob
    have hm:=mem_of_find?_eq_some he
    have h1:=List.find?_some he
    simp at h1
    rw[←h1];exact h.1 e hm
   rw[hd,if_pos hl,del_pos h.2 hf]
   rfl
theorem rless_spec{x y:U8} (hx:x.length=32) (hy:y.length=32) (w0:World):CP 157 #[.agg (u8s x).toArray,.agg (u8s y).toArray] w0 (Ret0 (.bool (ltD x y)) w0):=by
 have hs:Step [] [] w0 w0:=Step.refl w0
 have hxl:(u8s x).length=32:=by rw[u8s,length_map,hx]
 have hyl:(u8s y).length=32:=by rw[u8s,length_map,hy]
 have hdrop:∀(i:Nat) (x y:U8),i≤x.length→i≤y.length→(∀j,j<i→x[j]?=y[j]?)→ltD x y=ltD (x.drop i) (y.drop i):=by
  intro i
  induction i with
  | zero=>intro x y _ _ _;rfl
  | succ i ih=>
   intro x y h1 h2 h3
   match x,y,h1,h2 with
   | a::x,b::y,h1,h2=>
    have h0:=h3 0 (by omega)
    simp only[getElem?_cons_zero,Option.some.injEq] at h0
    subst h0
    rw[ltD,if_neg (by rw[UInt8.lt_iff_toNat_lt];omega),if_neg (by rw[UInt8.lt_iff_toNat_lt];omega),drop_succ_cons,drop_succ_cons]
    exact ih x y (by simpa using h1) (by simpa using h2) (fun j hj=>by have:=h3 (j+1) (by omega);simpa using this)
 refine calls (n:=24) Tryz.func157 rfl rfl rfl ?_
 refine sr<|WL.box (cs:=u8s x) rfl rfl rfl hs (fun b2 w hs=>?_)
 refine WL.box (cs:=u8s y) rfl rfl rfl hs (fun b3 w hs=>?_)
 refine wA<|wZ<|cq<|sr<|wA<|wZ<|cB<|CW.loop (fun m f w'=>∃i,i≤32∧m=32 - i∧(∀j,j<i→x[j]?=y[j]?)∧Step [] [(b3,blk 201 (u8s y)),(b2,blk 201 (u8s x))] w0 w'∧Holds f [(2,pt b2),(3,pt b3),(5,.int .i64 (i:Nat))]) (m:=32) ?_ ?_
 ·exact⟨0,by omega,rfl,fun j hj=>by omega,hs,rfl,rfl,rfl,trivial⟩
 ·rintro m f w ⟨i,hi,rfl,heq,hs,hf⟩
  have ob:=hf.chain
  obtain⟨g,rfl⟩:=ob
  by_cases hlt:i<32
  ·have ob:∃a,x[i]?=some a:=⟨_,getElem?_eq_getElem (by omega)⟩
   obtain⟨a,ha⟩:=ob
   have ob:∃b,y[i]?=some b:=⟨_,getElem?_eq_getElem (by omega)⟩
   obtain⟨b,hb⟩:=ob
   have hca:(u8s x)[0+i*1]?=some (.int .u8 a.toNat):=by simp[u8s,ha]
   have hcb:(u8s y)[0+i*1]?=some (.int .u8 b.toNat):=by simp[u8s,hb]
   have e1:=hdrop i x y (by omega) (by omega) heq
   rw[drop_eq_getElem_cons (by omega),drop_eq_getElem_cons (show i<y.length by omega)] at e1
   have hxa:x[i]=a:=(List.getElem?_eq_some_iff.1 ha).2
   have hyb:y[i]=b:=(List.getElem?_eq_some_iff.1 hb).2
   rw[hxa,hyb,ltD] at e1
   by_cases hab:a=b
   ·subst hab
    refine cq<|sr<|wm<|lT<|wZ<|cT rfl<|ck<|cq<|cB<|cq<|CW.quiet mixedP (by kernel_rfl) hs ?_
    refine qm<|qV (fun w hs=>run_ixArrN u201 ty5 rfl rfl (by omega))<|qL ty5 rfl (fun w hs=>hs.c1 hca)<|qm<|qV (fun w hs=>run_ixArrN u201 ty5 rfl rfl (by omega))<|qL ty5 rfl (fun w hs=>hs.c0 hcb)<|qV (fun w hs=>run_bF (run_neq rfl rfl) (by simp))<|QL.nil (fun w hs=>?_)
    refine CW.cond rfl (fun h=>?_) (fun h=>?_)
    ·cases h
    refine ck<|cr<|wm<|wP ((i+1:Nat):Int)<|wA<|wZ<|(show _∧_ from⟨rfl,_,?_,i+1,by omega,rfl,?_,hs,rfl,rfl,rfl,trivial⟩)
    ·omega
    ·intro j hj
     by_cases hji:j=i
     ·subst hji;rw[ha,hb]
     ·exact heq j (by omega)
   ·have hne:(a.toNat:Int)≠b.toNat:=fun e=>hab (UInt8.toNat_inj.1 (by omega))
    refine cq<|sr<|wm<|lT<|wZ<|cT rfl<|ck<|cq<|cB<|cq<|CW.quiet mixedP (by kernel_rfl) hs ?_
    refine qm<|qV (fun w hs=>run_ixArrN u201 ty5 rfl rfl (by omega))<|qL ty5 rfl (fun w hs=>hs.c1 hca)<|qm<|qV (fun w hs=>run_ixArrN u201 ty5 rfl rfl (by omega))<|qL ty5 rfl (fun w hs=>hs.c0 hcb)<|qV (fun w hs=>run_bT (run_neq rfl rfl) (by exact hne))<|QL.nil (fun w hs=>?_)
    refine CW.cond rfl (fun h=>?_) (fun h=>?_)
    ·have e2:decide ((a.toNat:Int)<b.toNat)=ltD x y:=by
      rw[e1]
      by_cases h1:a<b
      ·rw[if_pos h1,decide_eq_true];rw[UInt8.lt_iff_toNat_lt] at h1;omega
      ·have h2:b<a:=by rw[UInt8.lt_iff_toNat_lt] at *;omega
       rw[if_neg h1,if_pos h2,decide_eq_false]
       rw[UInt8.lt_iff_toNat_lt] at h1;omega
     refine cq<|CW.quiet mixedP (by kernel_rfl) hs ?_
     refine qm<|qV (fun w hs=>run_ixArrN u201 ty5 rfl rfl (by omega))<|qL ty5 rfl (fun w hs=>hs.c1 hca)<|qm<|qV (fun w hs=>run_ixArrN u201 ty5 rfl rfl (by omega))<|qL ty5 rfl (fun w hs=>hs.c0 hcb)<|qV (fun w hs=>run_lss rfl rfl)<|qA<|QL.nil (fun w hs=>?_)
     refine CW.ret ?_
     refine fin_ret1 rfl ?_
     exact⟨congrArg (fun b=>Ending.returned (.bool b)) e2,hs.clear⟩
    ·cases h
  ·obtain rfl:i=32:=by omega
   have e:ltD x y=false:=by
    have:x=y:=by
     apply ext_getElem?
     intro j
     by_cases hj:j<32
     ·exact heq j hj
     ·rw[getElem?_eq_none (by omega),getElem?_eq_none (by omega)]
    subst this
    exact ltD_irrefl x
   refine cq<|sr<|wm<|lF<|wZ<|cF rfl<|CW.exit<|sr<|wA<|wZ<|CW.ret ?_
   refine fin_ret1 rfl ?_
   exact⟨congrArg (fun b=>Ending.returned (.bool b)) e.symm,hs.clear⟩
abbrev RB:=(List UInt8)×Value×Nat
def rbC (t:RB):List Value:=u8s t.1++[t.2.1,.int .i64 (t.2.2:Nat)]
def rowsT (T:List RB):List Value:=(T.map rbC).flatten
def rsC (k cap last:Nat) (v:Value) (gets puts:Nat):List Value:=[.int .i64 k,.int .i64 cap,.int .i64 last,v,.int .i64 gets,.int .i64 puts]
def RbB (D:(List (Nat×Obj))) (t:RB) (b:Blb):Prop:=t.1=b.d∧t.2.2=b.st∧Held D t.2.1 b.x
inductive RView (D:(List (Nat×Obj))):List RB→List Blb→Prop
 | nil:RView D [] []
 | cons{t:RB}{b:Blb}{T:List RB}{X:List Blb}:RbB D t b→RView D T X→RView D (t::T) (b::X)
theorem RbB.mono {D D':OL}{t:RB}{b:Blb} (h:RbB D t b) (hD:∀p∈D,p∈D'):RbB D' t b:=⟨h.1,h.2.1,h.2.2.mono hD⟩
theorem RView.mono {D D':OL}{T:List RB}{X:List Blb} (h:RView D T X) (hD:∀p∈D,p∈D'):RView D' T X:=by
 induction h with
 | nil=>exact .nil
 | cons h _ ih=>exact .cons (h.mono hD) ih
theorem RView.length{D:OL}{T:List RB}{X:List Blb} (h:RView D T X):T.length=X.length:=by
 induction h with
 | nil=>rfl
 | cons _ _ ih=>simp[ih]
theorem RView.at{D:OL}{T:List RB}{X:List Blb} (h:RView D T X):∀{i:Nat}{b:Blb},X[i]?=some b→∃t,T[i]?=some t∧RbB D t b:=by
 induction h with
 | nil=>intro i b hb;simp at hb
 | cons h _ ih=>
  intro i b hb
  cases i with
  | zero=>rw[getElem?_cons_zero] at hb;obtain rfl:=Option.some.inj hb;exact⟨_,rfl,h⟩
  | succ i=>exact ih hb
theorem RView.take{D:OL}{T:List RB}{X:List Blb} (h:RView D T X):∀(i:Nat),RView D (T.take i) (X.take i):=by
 induction h with
 | nil=>intro i;simp;exact .nil
 | cons h _ ih=>intro i;cases i with
  | zero=>exact .nil
  | succ i=>exact .cons h (ih i)
theorem RView.drop{D:OL}{T:List RB}{X:List Blb} (h:RView D T X):∀(i:Nat),RView D (T.drop i) (X.drop i):=by
 induction h with
 | nil=>intro i;simp;exact .nil
 | cons h hT ih=>intro i;cases i with
  | zero=>exact .cons h hT
  | succ i=>exact ih i
theorem RView.append{D:OL}{T T':List RB}{X X':List Blb} (h:RView D T X) (h':RView D T' X'):RView D (T++T') (X++X'):=by
 induction h with
 | nil=>exact h'
 | cons h _ ih=>exact .cons h ih
theorem RView.set{D:OL}{T:List RB}{X:List Blb} (h:RView D T X){t:RB}{b:Blb} (hb:RbB D t b):∀(i:Nat),RView D (T.set i t) (X.set i b):=by
 induction h with
 | nil=>intro i;exact .nil
 | cons h hT ih=>intro i;cases i with
  | zero=>exact .cons hb hT
  | succ i=>exact .cons h (ih i)
theorem RView.len32{D:OL}{T:List RB}{X:List Blb} (h:RView D T X) (hX:∀b∈X,b.d.length=32):∀t∈T,t.1.length=32:=by
 induction h with
 | nil=>intro t ht;cases ht
 | cons h _ ih=>
  intro t ht
  rcases mem_cons.1 ht with rfl | ht
  ·rw[h.1];exact hX _ (by simp)
  ·exact ih (fun b hb=>hX b (by simp[hb])) t ht
theorem rbC_len{t:RB} (h:t.1.length=32):(rbC t).length=34:=by simp[rbC,u8s,h]
theorem rowsT_len{T:List RB} (h:∀t∈T,t.1.length=32):(rowsT T).length=T.length*34:=by
 induction T with
 | nil=>rfl
 | cons t T ih=>
  have:=ih (fun t ht=>h t (by simp[ht]))
  rw[rowsT] at this
  rw[rowsT,map_cons,flatten_cons,length_append,rbC_len (h t (by simp)),length_cons];omega
theorem rowsT_append (T T':List RB):rowsT (T++T')=rowsT T++rowsT T':=by simp[rowsT]
theorem rowsT_at:∀(T:List RB),(∀t∈T,t.1.length=32)→∀(i j:Nat) (t:RB),T[i]?=some t→j<34→(rowsT T)[i*34+j]?=(rbC t)[j]?
 | [],_,i,j,t,h,_=>by simp at h
 | r::T,hl,0,j,t,h,hj=>by
  rw[getElem?_cons_zero] at h
  obtain rfl:=Option.some.inj h
  rw[rowsT,map_cons,flatten_cons,Nat.zero_mul,Nat.zero_add,getElem?_append_left (by rw[rbC_len (hl _ (by simp))];exact hj)]
 | r::T,hl,i+1,j,t,h,hj=>by
  rw[rowsT,map_cons,flatten_cons,getElem?_append_right (by rw[rbC_len (hl _ (by simp))];omega),rbC_len (hl _ (by simp)),show(i+1)*34+j - 34=i*34+j by omega]
  exact rowsT_at T (fun t ht=>hl t (by simp[ht])) i j t h hj
theorem At.rowT{W:World}{b off:Nat}{T:List RB} (h:At W b off (rowsT T)) (hl:∀t∈T,t.1.length=32){i:Nat}{t:RB} (ht:T[i]?=some t):At W b (off+i*34) (rbC t):=by
 intro j v hj
 have hj34:j<34:=by
  have:=(List.getElem?_eq_some_iff.1 hj).1
  rw[rbC_len (hl t (mem_of_getElem? ht))] at this;exact this
 rw[Nat.add_assoc]
 exact h _ _ ((rowsT_at T hl i j t ht hj34).trans hj)
theorem rbC_fst{t:RB} (h:t.1.length=32):(rbC t).take 32=u8s t.1:=by rw[rbC,take_append_of_le_length (by simp[u8s,h]),take_of_length_le (by simp[u8s,h])]
theorem rbC_32{t:RB} (h:t.1.length=32):(rbC t)[32]?=some t.2.1:=by
 have h:(u8s t.1).length=32:=by simp[u8s,h]
 rw[rbC,getElem?_append_right (by omega),h]
 rfl
theorem rbC_33{t:RB} (h:t.1.length=32):(rbC t)[33]?=some (.int .i64 (t.2.2:Nat)):=by
 have h:(u8s t.1).length=32:=by simp[u8s,h]
 rw[rbC,getElem?_append_right (by omega),h]
 rfl
def RRep (br:Nat) (s:AS) (D R:(List (Nat×Obj))):Prop:=
 ∃v Lv T,R=(br,blk 54 (rsC s.k s.cap s.last v s.gets s.puts))::Lv∧OwnSl 80 34 v s.X.length (rowsT T) Lv∧RView D T s.X
theorem RRep.mono{br:Nat}{s:AS}{D D' R:OL} (h:RRep br s D R) (hD:∀p∈D,p∈D'):RRep br s D' R:=by
 obtain⟨v,Lv,T,h1,h2,h3⟩:=h
 exact⟨v,Lv,T,h1,h2,h3.mono hD⟩
structure ROpen (br:Nat) (s:AS) (D R:(List (Nat×Obj))) (w:World) (a:Option Addr) (c:Nat) (Lv:(List (Nat×Obj))) (T:List RB):Prop where
 eqR:R=(br,blk 54 (rsC s.k s.cap s.last (.slice a s.X.length c) s.gets s.puts))::Lv
 own:OwnSl 80 34 (.slice a s.X.length c) s.X.length (rowsT T) Lv
 view:RView D T s.X
 hb:w.heap[br]?=some (blk 54 (rsC s.k s.cap s.last (.slice a s.X.length c) s.gets s.puts))
 out:∀p∈D,p.1∉R.map (·.1)
 dat:∀p∈D,w.heap[p.1]?=some p.2
 len:∀t∈T,t.1.length=32
 rows:s.X=[]∨∃b,a=some ⟨b,0,none⟩∧At w b 0 (rowsT T)
theorem RRep.open{br:Nat}{s:AS}{D R:OL}{w:World} (h:RRep br s D R) (ok:s.Ok) (hw:Lives (R++D) w):∃a c Lv T,ROpen br s D R w a c Lv T:=by
 obtain⟨v,Lv,T,rfl,h2,h3⟩:=h
 have hn:=Step.nodup hw
 rw[map_append,nodup_append] at hn
 have ob:=h2.form
 obtain⟨a,c,rfl⟩:=ob
 refine⟨a,c,Lv,T,rfl,h2,h3,hw.has (br,blk 54 (rsC s.k s.cap s.last (.slice a s.X.length c) s.gets s.puts)) (by simp),fun p hp hb=>hn.2.2 p.1 hb p.1 (mem_map_of_mem hp) rfl,fun p hp=>hw.has _ (by simp[hp]),h3.len32 ok.len,?_⟩
 obtain⟨hl,⟨h4,h5,h6⟩ | ⟨b,cap,more,h4,h5,h6⟩⟩:=h2
 ·exact .inl (eq_nil_of_length_eq_zero h5)
 ·have ob:=Value.slice.inj h4
  obtain⟨rfl,-,rfl⟩:=ob
  refine .inr ⟨b,rfl,?_⟩
  have:w.heap[b]?=some (blk 80 (rowsT T++more)):=hw.has (b,blk 80 (rowsT T++more)) (by simp[h5])
  exact(At.of_blk this).left
section
variable{br:Nat}{s:AS}{D R Lv:OL}{w0:World}{d y:U8}{v:Value}{a:Option Addr}{c:Nat}{T:List RB}
theorem ROpen.row (o:ROpen br s D R w0 a c Lv T){i:Nat}{b:Blb} (hb:s.X[i]?=some b):∃bv v,a=some ⟨bv,0,none⟩∧Held D v b.x∧At w0 bv (0+i*34) (rbC (b.d,v,b.st)):=by
 rcases o.rows with h | ⟨bv,h1,h2⟩
 ·rw[h] at hb;simp at hb
 ·have ob:=o.view.at hb
  obtain⟨t,ht,h3,h4,h5⟩:=ob
  obtain⟨td,tv,ts⟩:=t
  simp only at h3 h4 h5
  subst h3 h4
  exact⟨bv,tv,h1,h5,h2.rowT o.len ht⟩
theorem ROpen.step{w:World} (o:ROpen br s D R w0 a c Lv T) (h:Step [] [] w0 w):ROpen br s D R w a c Lv T:=
 ⟨o.eqR,o.own,o.view,h.old o.hb (by simp),o.out,fun p hp=>h.old (o.dat p hp) (by simp),o.len,by
  rcases o.rows with h1 | ⟨b,h1,h2⟩
  ·exact .inl h1
  ·exact .inr ⟨b,h1,h2.step h (by simp)⟩⟩
theorem place_spec (o:ROpen br s D R w0 a c Lv T) (ok:s.Ok) (hd:d.length=32):CP 115 #[pt br,.agg (u8s d).toArray] w0 (Ret0 (.tuple #[.int .i64 (posX d s.X:Nat),.bool (s.has d)]) w0):=by
 have hs:Step [] [] w0 w0:=Step.refl w0
 have hat:At w0 br 0 (rsC s.k s.cap s.last (.slice a s.X.length c) s.gets s.puts):=At.of_blk o.hb
 have hdl:(u8s d).length=32:=by rw[u8s,length_map,hd]
 have hple:=posX_le d s.X
 have hpf:=pos_find (d:=d) ok.sorted
 have hsmall:=used_len s.X
 have huse:=ok.used
 have hhas:s.has d=(findX d s.X).isSome:=rfl
 refine calls (n:=48) Tryz.func115 rfl rfl rfl ?_
 refine sr<|WL.box (cs:=u8s d) rfl rfl rfl hs (fun b3 w hs=>?_)
 refine wA<|wA<|wZ<|sr<|wA<|wZ<|cq<|cB<|CW.loop (fun m f w'=>∃i,i≤s.X.length∧m=s.X.length - i∧(∀j b,j<i→s.X[j]?=some b→ltD b.d d=true)∧Step [] [(b3,blk 44 (u8s d))] w0 w'∧Holds f [(0,pt br),(3,pt b3),(6,.int .i64 (i:Nat))]) (m:=s.X.length) ?_ ?_
 ·exact⟨0,Nat.zero_le _,rfl,fun j b hj=>by omega,hs,rfl,rfl,rfl,trivial⟩
 ·rintro m f w ⟨i,hi,rfl,hless,hs,hf⟩
  have ob:=hf.chain
  obtain⟨g,rfl⟩:=ob
  have hpd:=posX_drop d s.X i hi hless
  by_cases hlt:i<s.X.length
  ·have ob:∃b,s.X[i]?=some b:=⟨_,getElem?_eq_getElem hlt⟩
   obtain⟨b,hb⟩:=ob
   have ob:=o.row hb
   obtain⟨bv,v,rfl,hv,hrow⟩:=ob
   have hbl:=ok.len b (mem_of_getElem? hb)
   have hbdl:(u8s b.d).length=32:=by rw[u8s,length_map,hbl]
   have hless1:=fun w=>rless_spec hbl hd w
   have hrd:At w0 bv (0+i*34+0) (u8s b.d):=by have h:=hrow.take 32;rw[rbC_fst hbl] at h;exact h
   cases hltd:ltD b.d d
   ·rw[hltd] at hless1
    have hpi:posX d s.X=i:=by rw[hpd,posX_at hb hltd];omega
    rw[hpi,hb,Option.bind_some] at hpf
    refine cq<|cq<|CW.quiet mixedP (by kernel_rfl) hs ?_
    refine qm<|qm<|qn rfl<|qF 3 u54 rfl ty52 rfl<|qL ty52 rfl (fun w hs=>(hat.step hs.clear (by simp)).cell (j:=3) rfl)<|qV (fun w hs=>run_lenSl u52 rfl)<|qV (fun w hs=>run_bT (run_lss rfl rfl) (by omega))<|qm<|qy<|qm<|qy<|qn rfl<|qy<|qF 3 u54 rfl ty52 rfl ?_
    refine qy<|qL ty52 rfl (fun w hs=>(hat.step hs.clear (by simp)).cell (j:=3) rfl)<|qy<|qm ?_
    refine qy ?_;(first | refine QL.val rfl (fun w hs=>run_ixSlN u52 ty80 rfl rfl (by omega)) ?_ | refine QL.val rfl (fun w hs=>run_ixSl u52 ty80 rfl rfl (by omega)) ?_)
    refine qy<|qF 0 u80 rfl ty44 rfl<|qy<|qV (fun w hs=>run_loadN ty44 rfl hbdl (hrd.step hs.clear (by simp)))<|qy<|qV (fun w hs=>run_loadN ty44 rfl hdl hs.a0)<|qy<|QL.enter rfl (fun w=>run_call en157 rfl rfl) (fun w hs=>hless1 _) ?_
    refine qT<|QL.nil (fun w hs=>?_)
    refine CW.cond rfl (fun h=>?_) (fun h=>?_)
    ·cases h
    have e:decide (b.d=d)=s.has d:=by
     rw[hhas,←hpf]
     by_cases h:b.d=d <;> simp[h]
    refine CW.exit<|cq<|CW.quiet mixedP (by kernel_rfl) hs ?_
    refine qm<|qm<|qm<|qn rfl<|qF 3 u54 rfl ty52 rfl<|qL ty52 rfl (fun w hs=>(hat.step hs.clear (by simp)).cell (j:=3) rfl)<|qV (fun w hs=>run_lenSl u52 rfl)<|qV (fun w hs=>run_bT (run_lss rfl rfl) (by omega))<|qm<|qy<|qm<|qy<|qn rfl<|qy<|qF 3 u54 rfl ty52 rfl ?_
    refine qy<|qL ty52 rfl (fun w hs=>(hat.step hs.clear (by simp)).cell (j:=3) rfl)<|qy<|qm ?_
    refine qy ?_;(first | refine QL.val rfl (fun w hs=>run_ixSlN u52 ty80 rfl rfl (by omega)) ?_ | refine QL.val rfl (fun w hs=>run_ixSl u52 ty80 rfl rfl (by omega)) ?_)
    refine qy<|qF 0 u80 rfl ty44 rfl<|qy<|qV (fun w hs=>run_loadN ty44 rfl hbdl (hrd.step hs.clear (by simp)))<|qy<|qV (fun w hs=>run_loadN ty44 rfl hdl hs.a0)<|qy<|qV (fun w hs=>run_eqDig hbl hd rfl rfl)<|qT<|qA<|qA<|QL.nil (fun w hs=>?_)
    refine CW.ret ?_
    refine fin_ret2 rfl ?_
    have e2:(Value.tuple #[.int .i64 (i:Nat),.bool (decide (b.d=d))])=.tuple #[.int .i64 (posX d s.X:Nat),.bool (s.has d)]:=by rw[e,hpi]
    exact⟨congrArg Ending.returned e2,hs.clear⟩
   ·rw[hltd] at hless1
    refine cq<|cq<|CW.quiet mixedP (by kernel_rfl) hs ?_
    refine qm<|qm<|qn rfl<|qF 3 u54 rfl ty52 rfl<|qL ty52 rfl (fun w hs=>(hat.step hs.clear (by simp)).cell (j:=3) rfl)<|qV (fun w hs=>run_lenSl u52 rfl)<|qV (fun w hs=>run_bT (run_lss rfl rfl) (by omega))<|qm<|qy<|qm<|qy<|qn rfl<|qy<|qF 3 u54 rfl ty52 rfl ?_
    refine qy<|qL ty52 rfl (fun w hs=>(hat.step hs.clear (by simp)).cell (j:=3) rfl)<|qy<|qm ?_
    refine qy ?_;(first | refine QL.val rfl (fun w hs=>run_ixSlN u52 ty80 rfl rfl (by omega)) ?_ | refine QL.val rfl (fun w hs=>run_ixSl u52 ty80 rfl rfl (by omega)) ?_)
    refine qy<|qF 0 u80 rfl ty44 rfl<|qy<|qV (fun w hs=>run_loadN ty44 rfl hbdl (hrd.step hs.clear (by simp)))<|qy<|qV (fun w hs=>run_loadN ty44 rfl hdl hs.a0)<|qy<|QL.enter rfl (fun w=>run_call en157 rfl rfl) (fun w hs=>hless1 _) ?_
    refine qT<|QL.nil (fun w hs=>?_)
    refine CW.cond rfl (fun h=>?_) (fun h=>?_)
    ·refine ck<|cB<|cr<|wm<|wP ((i+1:Nat):Int)<|wA<|wZ<|(show _∧_ from⟨rfl,_,?_,i+1,hlt,rfl,?_,hs,rfl,rfl,rfl,trivial⟩)
     ·omega
     ·intro j e hj he
      by_cases hji:j=i
      ·subst hji;rw[hb] at he;obtain rfl:=Option.some.inj he;exact hltd
      ·exact hless j e (by omega) he
    ·cases h
  ·obtain rfl:i=s.X.length:=by omega
   have hpi:posX d s.X=s.X.length:=by rw[hpd];simp[posX]
   rw[hpi,getElem?_eq_none (Nat.le_refl _)] at hpf
   have e:false=s.has d:=by rw[hhas,←hpf];rfl
   refine cq<|cq<|CW.quiet mixedP (by kernel_rfl) hs ?_
   refine qm<|qm<|qn rfl<|qF 3 u54 rfl ty52 rfl<|qL ty52 rfl (fun w hs=>(hat.step hs.clear (by simp)).cell (j:=3) rfl)<|qV (fun w hs=>run_lenSl u52 rfl)<|qV (fun w hs=>run_bF (run_lss rfl rfl) (by omega))<|qm<|qz<|qz<|qz<|qz<|qz<|qz ?_
   refine qz<|qz<|qz<|qz<|qP<|QL.nil (fun w hs=>?_)
   refine CW.cond rfl (fun h=>?_) (fun h=>?_)
   ·cases h
   refine CW.exit<|cq<|CW.quiet mixedP (by kernel_rfl) hs ?_
   refine qm<|qm<|qm<|qn rfl<|qF 3 u54 rfl ty52 rfl<|qL ty52 rfl (fun w hs=>(hat.step hs.clear (by simp)).cell (j:=3) rfl)<|qV (fun w hs=>run_lenSl u52 rfl)<|qV (fun w hs=>run_bF (run_lss rfl rfl) (by omega))<|qm<|qz<|qz<|qz<|qz<|qz ?_
   refine qz<|qz<|qz<|qz<|qz<|qP<|qA<|qA<|QL.nil (fun w hs=>?_)
   refine CW.ret ?_
   refine fin_ret2 rfl ?_
   have e2:(Value.tuple #[.int .i64 (s.X.length:Nat),.bool false])=.tuple #[.int .i64 (posX d s.X:Nat),.bool (s.has d)]:=by rw[e,hpi]
   exact⟨congrArg Ending.returned e2,hs.clear⟩
end
section
variable{br:Nat}{s:AS}{D R Lv:OL}{w0:World}{d y:U8}{v:Value}{a:Option Addr}{c:Nat}{T:List RB}
theorem usedX_snoc (X:List Blb) (b:Blb):usedX (X++[b])=usedX X+(b.x.length+32):=by simp[usedX]
theorem usedX_take_le (X:List Blb) (i:Nat):usedX (X.take i)≤usedX X:=by
 induction X generalizing i with
 | nil=>simp
 | cons b X ih=>cases i with
  | zero=>exact Nat.zero_le _
  | succ i=>rw[take_succ_cons,usedX_cons,usedX_cons];have:=ih i;omega
theorem rused_spec (o:ROpen br s D R w0 a c Lv T) (ok:s.Ok):CP 67 #[pt br] w0 (Ret0 (.int .i64 (usedX s.X:Nat)) w0):=by
 have hs:Step [] [] w0 w0:=Step.refl w0
 have hat:At w0 br 0 (rsC s.k s.cap s.last (.slice a s.X.length c) s.gets s.puts):=At.of_blk o.hb
 have hsmall:=used_len s.X
 have huse:=ok.used
 refine calls (n:=27) Tryz.func67 rfl rfl rfl ?_
 refine sr<|wA<|wZ<|sr<|wA<|wZ<|cq<|sr<|wA<|wZ<|cB ?_
 refine CW.loop (fun m f w'=>∃i,i≤s.X.length∧m=s.X.length - i∧Step [] [] w0 w'∧Holds f [(0,pt br),(3,.int .i64 (usedX (s.X.take i):Nat)),(4,.int .i64 (i:Nat))]) (m:=s.X.length) ?_ ?_
 ·exact⟨0,Nat.zero_le _,rfl,hs,rfl,rfl,rfl,trivial⟩
 ·rintro m f w ⟨i,hi,rfl,hs,hf⟩
  have ob:=hf.chain
  obtain⟨g,rfl⟩:=ob
  have htk:=usedX_take_le s.X i
  by_cases hlt:i<s.X.length
  ·have ob:∃b,s.X[i]?=some b:=⟨_,getElem?_eq_getElem hlt⟩
   obtain⟨b,hb⟩:=ob
   have ob:=o.row hb
   obtain⟨bv,v,rfl,hv,hrow⟩:=ob
   have hbl:=ok.len b (mem_of_getElem? hb)
   have hbu:=used_mem (mem_of_getElem? hb)
   have ob:=hv.form
   obtain⟨va,vc,rfl⟩:=ob
   have e:usedX (s.X.take (i+1))=usedX (s.X.take i)+b.x.length+32:=by
    rw[take_add_one,hb,Option.toList_some,usedX_snoc];omega
   have h32:w0.cell? ⟨bv,0+i*34+32,none⟩=some (.slice va b.x.length vc):=hrow.cell (rbC_32 hbl)
   have hcell:∀{L:OL}{w:World},Step [] L w0 w→w.cell? ⟨bv,0+i*34+32,none⟩=some (.slice va b.x.length vc):=fun {L w} h=>(hrow.step h.clear (by simp)).cell (rbC_32 hbl)
   refine cq<|sr<|wm<|wm<|wn rfl<|wF 3 u54 rfl ty52 rfl<|wl ty52 rfl ((hat.step hs.clear (by simp)).cell (j:=3) rfl)<|wL u52 rfl<|lT<|wZ<|CW.cond rfl (fun h=>?_) (fun h=>?_)
   ·refine ck<|cq<|cB<|cr<|wm<|wm<|wn rfl<|wF 3 u54 rfl ty52 rfl<|wl ty52 rfl ((hat.step hs.clear (by simp)).cell (j:=3) rfl)<|wm<|wI u52 ty80 rfl rfl<|wF 32 u80 rfl ty76 rfl<|wl ty76 rfl (hcell hs)<|wL u76 rfl<|wP ((usedX (s.X.take i)+b.x.length:Nat):Int)<|wP ((usedX (s.X.take (i+1)):Nat):Int)<|wA<|wZ<|cr<|wm<|wP ((i+1:Nat):Int)<|wA<|wZ ?_
    refine(show _∧_ from⟨rfl,_,?_,i+1,hlt,rfl,hs,rfl,rfl,rfl,trivial⟩)
    omega
   ·cases h
  ·obtain rfl:i=s.X.length:=by omega
   have e:usedX (s.X.take s.X.length)=usedX s.X:=by rw[take_length]
   refine cq<|sr<|wm<|wm<|wn rfl<|wF 3 u54 rfl ty52 rfl<|wl ty52 rfl ((hat.step hs.clear (by simp)).cell (j:=3) rfl)<|wL u52 rfl<|lF<|wZ<|CW.cond rfl (fun h=>?_) (fun h=>?_)
   ·cases h
   ·refine CW.exit<|sr<|wm<|wA<|wZ<|CW.ret ?_
    refine fin_ret1 rfl ?_
    exact⟨congrArg (fun n:Nat=>Ending.returned (.int .i64 (n:Int))) e,hs⟩
theorem room_spec (o:ROpen br s D R w0 a c Lv T) (ok:s.Ok) (hd:d.length=32){n:Nat} (hn:n<1099511627776):CP 113 #[pt br,.agg (u8s d).toArray,.int .i64 (n:Nat)] w0 (Ret0 (.bool (decide (usedX (delX d s.X)+(n+32)≤s.cap))) w0):=by
 have hs:Step [] [] w0 w0:=Step.refl w0
 have hat:At w0 br 0 (rsC s.k s.cap s.last (.slice a s.X.length c) s.gets s.puts):=At.of_blk o.hb
 have hdl:(u8s d).length=32:=by rw[u8s,length_map,hd]
 have huse:=ok.used
 have hcap:=ok.cap
 have hud:=used_del ok.sorted d
 have hpos:=fun{c:Blb} (h:findX d s.X=some c)=>pos_some ok.sorted h
 have hpl:=fun w (h:Step [] [] w0 w)=>place_spec (d:=d) (o.step h) ok hd
 have hus:=fun w (h:Step [] [] w0 w)=>rused_spec (o.step h) ok
 unfold AS.has at hpl
 cases hf:findX d s.X with
 | none=>
  rw[hf] at hpl hud
  simp only at hud
  refine calls (n:=40) Tryz.func113 rfl rfl rfl ?_
  refine sr<|WL.box (cs:=u8s d) rfl rfl rfl hs (fun b4 w hs=>?_)
  refine wA<|wZ<|sr<|wm<|wR ty44 rfl hdl hs.a0<|wE rfl (run_call en115 rfl rfl) (hpl _ hs.clear) ?_
  rintro e w ⟨rfl,hq⟩
  refine⟨_,rfl,?_⟩
  replace hs:=hs.callE hq
  refine wm<|wx rfl rfl<|wx rfl rfl<|wA<|wA<|wZ<|sr<|wm<|wE rfl (run_call en67 rfl rfl) (hus _ hs.clear) ?_
  rintro e w ⟨rfl,hq⟩
  refine⟨_,rfl,?_⟩
  replace hs:=hs.callE hq
  refine wm<|wP ((usedX s.X+n:Nat):Int)<|wP ((usedX s.X+n+32:Nat):Int)<|wA<|wZ<|cq<|sr<|wm<|wZ<|CW.cond rfl (fun h=>?_) (fun h=>?_)
  ·cases h
  have e:decide (((usedX s.X+n+32:Nat):Int)≤(s.cap:Nat))=decide (usedX (delX d s.X)+(n+32)≤s.cap):=decide_eq_decide.2 (by omega)
  refine ck<|sr<|wm<|wm<|wn rfl<|wF 1 u54 rfl ty3 rfl<|wl ty3 rfl ((hat.step hs.clear (by simp)).cell (j:=1) rfl)<|wV (run_leq rfl rfl)<|wA<|wZ<|CW.ret ?_
  refine fin_ret1 rfl ?_
  exact⟨congrArg (fun b=>Ending.returned (.bool b)) e,hs.clear⟩
 | some b=>
  rw[hf] at hpl hud
  simp only at hud
  have ob:=hpos hf
  obtain⟨hb,hbd⟩:=ob
  have ob:=o.row hb
  obtain⟨bv,v,rfl,hv,hrow⟩:=ob
  have hlt:=(List.getElem?_eq_some_iff.1 hb).1
  have hbl:=ok.len b (mem_of_getElem? hb)
  have ob:=hv.form
  obtain⟨va,vc,rfl⟩:=ob
  have hcell:∀{L:OL}{w:World},Step [] L w0 w→w.cell? ⟨bv,0+posX d s.X*34+32,none⟩=some (.slice va b.x.length vc):=fun {L w} h=>(hrow.step h.clear (by simp)).cell (rbC_32 hbl)
  refine calls (n:=40) Tryz.func113 rfl rfl rfl ?_
  refine sr<|WL.box (cs:=u8s d) rfl rfl rfl hs (fun b4 w hs=>?_)
  refine wA<|wZ<|sr<|wm<|wR ty44 rfl hdl hs.a0<|wE rfl (run_call en115 rfl rfl) (hpl _ hs.clear) ?_
  rintro e w ⟨rfl,hq⟩
  refine⟨_,rfl,?_⟩
  replace hs:=hs.callE hq
  refine wm<|wx rfl rfl<|wx rfl rfl<|wA<|wA<|wZ<|sr<|wm<|wE rfl (run_call en67 rfl rfl) (hus _ hs.clear) ?_
  rintro e w ⟨rfl,hq⟩
  refine⟨_,rfl,?_⟩
  replace hs:=hs.callE hq
  refine wm<|wP ((usedX s.X+n:Nat):Int)<|wP ((usedX s.X+n+32:Nat):Int)<|wA<|wZ<|cq<|sr<|wm<|wZ<|CW.cond rfl (fun h=>?_) (fun h=>?_)
  ·skip
   refine cr<|wm<|wm<|wn rfl<|wF 3 u54 rfl ty52 rfl<|wl ty52 rfl ((hat.step hs.clear (by simp)).cell (j:=3) rfl)<|wm<|wI u52 ty80 rfl rfl<|wF 32 u80 rfl ty76 rfl<|wl ty76 rfl (hcell hs)<|wL u76 rfl<|wS ((usedX s.X+n+32 - b.x.length:Nat):Int)<|wS ((usedX s.X+n+32 - b.x.length - 32:Nat):Int)<|wA<|wZ ?_
   have e:decide (((usedX s.X+n+32 - b.x.length - 32:Nat):Int)≤(s.cap:Nat))=decide (usedX (delX d s.X)+(n+32)≤s.cap):=decide_eq_decide.2 (by omega)
   refine sr<|wm<|wm<|wn rfl<|wF 1 u54 rfl ty3 rfl<|wl ty3 rfl ((hat.step hs.clear (by simp)).cell (j:=1) rfl)<|wV (run_leq rfl rfl)<|wA<|wZ<|CW.ret ?_
   refine fin_ret1 rfl ?_
   exact⟨congrArg (fun b=>Ending.returned (.bool b)) e,hs.clear⟩
  ·cases h
theorem ofR_spec{k:Nat} (w0:World) (hv:Sl w0 1 v y.length (u8s y)) (hsz:y.length<1099511627776) (hk1:1≤k) (hk:k≤32):CP 61 #[.int .i64 (k:Nat),v] w0 (Ret0 (.agg (u8s (frontL y k)).toArray) w0):=by
 have hs:Step [] [] w0 w0:=Step.refl w0
 have hl2:(u8s (frontL y k)).length=32:=by rw[u8s,length_map,frontL_len hk]
 refine calls (n:=10) Tryz.func61 rfl rfl rfl ?_
 refine sr<|WL.alloc ty44 rfl hs (fun b4 w hs=>?_)
 refine wZ<|sr<|wm<|wm<|wE rfl (run_call en111 rfl rfl) (refFront_spec _ (hv.step0 hs.clear) hsz hk1 hk) ?_
 rintro e w ⟨rfl,hq⟩
 refine⟨_,rfl,?_⟩
 replace hs:=hs.callE hq
 refine WL.alloc ty201 rfl hs (fun b5 w hs=>?_)
 refine WL.storeAll ty201 rfl rfl ((hl2)) (Cells1.u8s _) hs (by rfl) (fun w hs=>?_)
 refine wZ<|sr<|wR ty201 rfl hl2 hs.a0<|WL.storeAll ty44 rfl rfl (hl2) (Cells1.u8s _) (hs.swap) rfl (fun w hs=>?_)
 refine wZ<|CW.ret ?_
 refine fin_cell1 rfl rfl (run_loadVarN ty44 (by assumption) hs.a0) ?_
 exact⟨rfl,hs.clear⟩
theorem sameR_spec{u v:Value}{x y:U8} (w0:World) (hu:Sl w0 1 u x.length (u8s x)) (hv:Sl w0 1 v y.length (u8s y)):CP 121 #[u,v] w0 (Ret0 (.bool (decide (x=y))) w0):=by
 have hs:Step [] [] w0 w0:=Step.refl w0
 refine calls (n:=10) Tryz.func121 rfl rfl rfl ?_
 refine sr<|wA<|wZ<|sr<|wm<|wV (run_toString u76 u9 u5 rfl (hu.step0 hs))<|wm<|wV (run_toString u76 u9 u5 rfl (hv.step0 hs))<|wV (run_strEq rfl rfl)<|wA<|wZ<|CW.ret ?_
 refine fin_ret1 rfl ?_
 exact⟨rfl,hs⟩
theorem rnew_width{k c:Int} (hk:k<1∨32<k) (w:World):CP 58 #[.int .i64 k,.int .i64 c] w (Ret0 (.tuple #[.pointer none,.int .i64 3]) w):=by
 have hs:Step [] [] w w:=Step.refl w
 by_cases h1:k<1
 ·refine calls (n:=22) Tryz.func58 rfl rfl rfl ?_
  refine sr<|wA<|wA<|wZ<|cq<|sr<|wm<|wV (run_bT (run_lss rfl rfl) (by exact h1))<|wm<|wz<|wz<|pT<|wZ ?_
  refine CW.cond rfl (fun h=>?_) (fun h=>?_)
  ·refine sr<|wA<|wA<|wZ<|CW.ret ?_
   refine fin_ret2 rfl ?_
   exact⟨rfl,hs.clear⟩
  ·cases h
 ·have h2:k > 32:=by omega
  refine calls (n:=22) Tryz.func58 rfl rfl rfl ?_
  refine sr<|wA<|wA<|wZ<|cq<|sr<|wm<|wV (run_bF (run_lss rfl rfl) (by exact h1))<|wm<|wy<|wm<|wy<|wV (run_bT (run_gtr rfl rfl) (by exact h2))<|pF<|wZ ?_
  refine CW.cond rfl (fun h=>?_) (fun h=>?_)
  ·refine sr<|wA<|wA<|wZ<|CW.ret ?_
   refine fin_ret2 rfl ?_
   exact⟨rfl,hs.clear⟩
  ·cases h
theorem rnew_arg{k c:Int} (hk1:1≤k) (hk:k≤32) (hc:¬(0≤c∧c≤67108864)) (w:World):CP 58 #[.int .i64 k,.int .i64 c] w (Ret0 (.tuple #[.pointer none,.int .i64 1]) w):=by
 have hs:Step [] [] w w:=Step.refl w
 by_cases h1:c<0
 ·refine calls (n:=22) Tryz.func58 rfl rfl rfl ?_
  refine sr<|wA<|wA<|wZ<|cq<|sr<|wm<|lF<|wm<|wy<|wm<|wy<|xF<|pF<|wZ ?_
  refine CW.cond rfl (fun h=>?_) (fun h=>?_)
  ·cases h
  refine ck<|cq<|sr<|wm<|wV (run_bT (run_lss rfl rfl) (by exact h1))<|wm<|wz<|wz<|pT<|wZ<|CW.cond rfl (fun h=>?_) (fun h=>?_)
  ·refine sr<|wA<|wA<|wZ<|CW.ret ?_
   refine fin_ret2 rfl ?_
   exact⟨rfl,hs.clear⟩
  ·cases h
 ·have h2:c > 67108864:=by omega
  refine calls (n:=22) Tryz.func58 rfl rfl rfl ?_
  refine sr<|wA<|wA<|wZ<|cq<|sr<|wm<|lF<|wm<|wy<|wm<|wy<|xF<|pF<|wZ ?_
  refine CW.cond rfl (fun h=>?_) (fun h=>?_)
  ·cases h
  refine ck<|cq<|sr<|wm<|wV (run_bF (run_lss rfl rfl) (by exact h1))<|wm<|wy<|wm<|wy<|wV (run_bT (run_gtr rfl rfl) (by exact h2))<|pF<|wZ<|CW.cond rfl (fun h=>?_) (fun h=>?_)
  ·refine sr<|wA<|wA<|wZ<|CW.ret ?_
   refine fin_ret2 rfl ?_
   exact⟨rfl,hs.clear⟩
  ·cases h
theorem bld_rstore (k c:Int) (w:World):(Instr.build 54 #[(0,.int .i64 k),(1,.int .i64 c)]).run Tryz.prog w=.ok (.agg #[.int .i64 k,.int .i64 c,.int .i64 0,.slice none 0 0,.int .i64 0,.int .i64 0]) w:=by kernel_rfl
theorem rnew_abs{k c:Nat} (hk1:1≤k) (hk:k≤32) (hc:c≤67108864) (w:World):CP 58 #[.int .i64 (k:Nat),.int .i64 (c:Nat)] w fun e w'=>∃br R,e=.returned (.tuple #[pt br,.int .i64 0])∧RRep br (newS k c) [] R∧Step [] R w w':=by
 have hs:Step [] [] w w:=Step.refl w
 refine calls (n:=22) Tryz.func58 rfl rfl rfl ?_
 refine sr<|wA<|wA<|wZ<|cq<|sr<|wm<|lF<|wm<|wy<|wm<|wy<|xF<|pF<|wZ ?_
 refine CW.cond rfl (fun h=>?_) (fun h=>?_)
 ·cases h
 refine ck<|cq<|sr<|wm<|lF<|wm<|wy<|wm<|wy<|xF<|pF<|wZ<|CW.cond rfl (fun h=>?_) (fun h=>?_)
 ·cases h
 refine ck<|sr<|wm<|wm<|wV (run_build rfl ((bld_rstore _ _ _)))<|WL.box (cs:=rsC k c 0 (.slice none 0 0) 0 0) rfl rfl rfl hs (fun b21 w hs=>?_)
 refine wA<|wA<|wZ<|CW.ret ?_
 refine fin_ret2 rfl ?_
 exact⟨b21,_,rfl,⟨_,[],[],rfl,OwnSl.nil _ _,.nil⟩,hs⟩
end
theorem run_neDig{f:Slots}{w:World}{dd:Option Tmp}{ty:TypeId}{pos:String}{af:Array Edge}{x y:Operand}{T':TypeId}{a b:U8} (ha:a.length=32) (hb:b.length=32) (hx:ev f x=.agg (u8s a).toArray) (hy:ev f y=.agg (u8s b).toArray) :
  (execOp (ev f) ⟨dd,.binOp .neq 44 x y T',ty,pos,af,none⟩).run Tryz.prog w=.ok (.value (.bool (decide (¬a=b)))) w:=
 run_neqAgg u8l_iff dig_key (dig_formed ha) (dig_formed hb) dig_guard hx hy (dig_lits ha) (dig_lits hb)
section
variable{br:Nat}{s:AS}{D R Lv:OL}{w0:World}{d y:U8}{v:Value}{a:Option Addr}{c:Nat}{T:List RB}
end
section
variable{br:Nat}{s:AS}{D R:OL}{w0:World}{d y:U8}{v:Value}{n:Nat}
theorem RRep.head{a:Option Addr}{c:Nat}{Lv:OL}{T:List RB} (o:ROpen br s D R w0 a c Lv T) (k cap last gets puts:Nat):RRep br ⟨k,cap,last,gets,puts,s.X⟩ D ((br,blk 54 (rsC k cap last (.slice a s.X.length c) gets puts))::Lv):=
 ⟨_,Lv,T,rfl,o.own,o.view⟩
theorem Lives.kept {L L' D:OL}{w w':World} (hw:Lives (L++D) w) (h:Step (L.map (·.1)) L' w w'):Lives (L'++D) w':=
 Step.own (L1:=L'++D) (L:=[]) (by rw[append_nil];exact Step.call (L1:=L) (L:=D) hw h)
end
def cutV (a:Option Addr) (lo hi c:Nat):Value:=match a with | none=>.slice none 0 0 | some ad=>cutSl 34 ad.block 0 lo hi c
theorem bld_rb32 (a0 a1 a2 a3 a4 a5 a6 a7 a8 a9 a10 a11 a12 a13 a14 a15 a16 a17 a18 a19 a20 a21 a22 a23 a24 a25 a26 a27 a28 a29 a30 a31:UInt8) (a:Option Addr) (n c:Nat) (z:Int) (w:World):(Instr.build 80 #[(0,.agg (u8s [a0,a1,a2,a3,a4,a5,a6,a7,a8,a9,a10,a11,a12,a13,a14,a15,a16,a17,a18,a19,a20,a21,a22,a23,a24,a25,a26,a27,a28,a29,a30,a31]).toArray),(1,.slice a n c),(2,.int .i64 z)]).run Tryz.prog w=.ok (.agg (u8s [a0,a1,a2,a3,a4,a5,a6,a7,a8,a9,a10,a11,a12,a13,a14,a15,a16,a17,a18,a19,a20,a21,a22,a23,a24,a25,a26,a27,a28,a29,a30,a31]++[Value.slice a n c,.int .i64 z]).toArray) w:=by kernel_rfl
theorem bld_rb{d:U8} (hd:d.length=32) (a:Option Addr) (n c:Nat) (st:Nat) (w:World):(Instr.build 80 #[(0,.agg (u8s d).toArray),(1,.slice a n c),(2,.int .i64 (st:Nat))]).run Tryz.prog w=.ok (.agg (rbC (d,.slice a n c,st)).toArray) w:=by
 have ob:=cells32 hd
 obtain⟨a0,a1,a2,a3,a4,a5,a6,a7,a8,a9,a10,a11,a12,a13,a14,a15,a16,a17,a18,a19,a20,a21,a22,a23,a24,a25,a26,a27,a28,a29,a30,a31,rfl⟩:=ob
 exact bld_rb32 a0 a1 a2 a3 a4 a5 a6 a7 a8 a9 a10 a11 a12 a13 a14 a15 a16 a17 a18 a19 a20 a21 a22 a23 a24 a25 a26 a27 a28 a29 a30 a31 a n c (st:Nat) w
theorem rbC_cells1{t:RB} (h:t.2.1.oneCell'=true):Cells1 (rbC t):=by
 intro v hv
 rcases mem_append.1 hv with h1 | h1
 ·exact Cells1.u8s t.1 v h1
 ·simp only[mem_cons,not_mem_nil,or_false] at h1
  rcases h1 with rfl | rfl
  ·exact h
  ·rfl
section
variable{br:Nat}{s:AS}{D R Lv:OL}{w0:World}{d y:U8}{v:Value}{a:Option Addr}{c n:Nat}{T:List RB}
theorem ROpen.later (o:ROpen br s D R w0 a c Lv T) (k cap last gets puts:Nat){w:World} (hs:Step (R.map (·.1)) ((br,blk 54 (rsC k cap last (.slice a s.X.length c) gets puts))::Lv) w0 w) :
  ROpen br ⟨k,cap,last,gets,puts,s.X⟩ D ((br,blk 54 (rsC k cap last (.slice a s.X.length c) gets puts))::Lv) w a c Lv T:=by
 refine⟨rfl,o.own,o.view,hs.hd,?_,fun p hp=>hs.old (o.dat p hp) (o.out p hp),o.len,?_⟩
 ·intro p hp
  have:=o.out p hp
  rw[o.eqR] at this
  exact this
 ·have hown:=o.own
  obtain⟨hl,⟨h4,h5,h6⟩ | ⟨b,cap,more,h4,h5,h6⟩⟩:=hown
  ·exact .inl (eq_nil_of_length_eq_zero h5)
  ·have ob:=Value.slice.inj h4
   obtain⟨rfl,-,rfl⟩:=ob
   refine .inr ⟨b,rfl,?_⟩
   have:w.heap[b]?=some (blk 80 (rowsT T++more)):=hs.has (b,blk 80 (rowsT T++more)) (by simp[h5])
   exact(At.of_blk this).left
theorem ROpen.nilOr (o:ROpen br s D R w0 a c Lv T):(a=none∧s.X=[]∧c=0∧Lv=[]∧T=[])∨∃b more,a=some ⟨b,0,none⟩∧Lv=[(b,blk 80 (rowsT T++more))]∧(rowsT T++more).length=c*34∧s.X.length≤c:=by
 have hown:=o.own
 have hv:=o.view.length
 obtain⟨hl,⟨h4,h5,h6⟩ | ⟨b,cap,more,h4,h5,h6⟩⟩:=hown
 ·have ob:=Value.slice.inj h4
  obtain⟨rfl,-,rfl⟩:=ob
  refine .inl ⟨rfl,eq_nil_of_length_eq_zero h5,rfl,h6,eq_nil_of_length_eq_zero (by omega)⟩
 ·have ob:=Value.slice.inj h4
  obtain⟨rfl,-,rfl⟩:=ob
  refine .inr ⟨b,more,rfl,h5,h6,?_⟩
  rw[length_append,hl] at h6
  omega
theorem run_cut{f:Slots}{w:World}{dd:Option Tmp}{ty:TypeId}{pos:String}{af:Array Edge}{x:Operand}{xl xh:Option Operand}{lo hi:Nat} (o:ROpen br s D R w0 a c Lv T) (hx:ev f x=.slice a s.X.length c)
  (hl:LoOk (xl.map (ev f)) lo) (hh:HiOk (xh.map (ev f)) hi s.X.length) (h1:lo≤hi) (h2:hi≤s.X.length) :
  (execOp (ev f) ⟨dd,.slice 52 x xl xh none,ty,pos,af,none⟩).run Tryz.prog w=.ok (.value (cutV a lo hi c)) w:=by
 rcases o.nilOr with⟨rfl,h3,rfl,h4,h5⟩ | ⟨b,more,rfl,h3,h4,h5⟩
 ·rw[h3] at hx hh h2
  simp only[length_nil,Nat.le_zero] at h2
  subst h2
  obtain rfl:lo=0:=by omega
  exact run_sliceNil u52 ty80 hx hl hh
 ·exact run_sliceSl u52 ty80 hx hl hh (m:=c) rfl (by simp) h1 (by omega) (Nat.le_refl _)
theorem cut_sl{w:World}{lo hi:Nat} (o:ROpen br s D R w a c Lv T) (h1:lo≤hi) (h2:hi≤s.X.length):Sl w 34 (cutV a lo hi c) (hi - lo) (rowsT ((T.take hi).drop lo)):=by
 have hv:=o.view.length
 have hlen:∀t∈(T.take hi).drop lo,t.1.length=32:=fun t ht=>o.len t (mem_of_mem_take (mem_of_mem_drop ht))
 have hcl:(rowsT ((T.take hi).drop lo)).length=(hi - lo)*34:=by rw[rowsT_len hlen,length_drop,length_take,Nat.min_eq_left (by omega)]
 rcases o.nilOr with⟨rfl,h3,rfl,h4,h5⟩ | ⟨b,more,rfl,h3,h4,h5⟩
 ·rw[h3] at h2
  simp only[length_nil,Nat.le_zero] at h2
  subst h2
  obtain rfl:lo=0:=by omega
  subst h5
  exact Sl.nil _ _ _
 ·rcases o.rows with h6 | ⟨b',h6,hat⟩
  ·rw[h6] at h2
   simp only[length_nil,Nat.le_zero] at h2
   subst h2
   obtain rfl:lo=0:=by omega
   refine⟨hcl,.inr ⟨b,_,_,rfl,?_⟩⟩
   simp only[take_zero,drop_zero]
   exact At.nil
  ·obtain rfl:b=b':=by injection h6 with h6;injection h6
   have e:rowsT T=rowsT (T.take lo)++(rowsT ((T.take hi).drop lo)++rowsT (T.drop hi)):=by
    rw[←rowsT_append,←rowsT_append]
    congr 1
    have h7:T.take lo=(T.take hi).take lo:=by rw[take_take,Nat.min_eq_left h1]
    rw[h7,←append_assoc,take_append_drop,take_append_drop]
   have htl:(rowsT (T.take lo)).length=lo*34:=by rw[rowsT_len (fun t ht=>o.len t (mem_of_mem_take ht)),length_take,Nat.min_eq_left (by omega)]
   rw[e] at hat
   have h8:=hat.right.left
   rw[htl] at h8
   show Sl w 34 (cutSl 34 b 0 lo hi c) (hi - lo) _
   by_cases hc:c=lo
   ·have h9:hi=lo:=by omega
    subst h9
    refine⟨hcl,.inr ⟨b,_,_,rfl,?_⟩⟩
    have:rowsT ((T.take hi).drop hi)=[]:=eq_nil_of_length_eq_zero (by rw[hcl];simp)
    rw[this]
    exact At.nil
   ·refine⟨hcl,.inr ⟨b,_,_,rfl,?_⟩⟩
    rw[if_neg hc]
    exact h8
theorem rowsT_cells1{T:List RB} (h:∀t∈T,t.2.1.oneCell'=true):Cells1 (rowsT T):=by
 intro v hv
 simp only[rowsT,mem_flatten,mem_map] at hv
 obtain⟨l,⟨t,ht,rfl⟩,hv⟩:=hv
 exact rbC_cells1 (h t ht) v hv
theorem RView.one{D:OL}{T:List RB}{X:List Blb} (h:RView D T X):∀t∈T,t.2.1.oneCell'=true:=by
 induction h with
 | nil=>intro t ht;cases ht
 | cons h _ ih=>
  intro t ht
  rcases mem_cons.1 ht with rfl | ht
  ·have ob:=h.2.2.form
   obtain⟨a,c,he⟩:=ob
   rw[he];rfl
  ·exact ih t ht
theorem rows_set{T:List RB} (hl:∀t∈T,t.1.length=32){i:Nat} (hi:i<T.length){t:RB} (ht:t.1.length=32) (more:List Value):splice (rowsT T++more) (0+i*34) (rbC t)=rowsT (T.set i t)++more:=by
 have e:T=T.take i++T[i]::T.drop (i+1):=by rw[←drop_eq_getElem_cons hi,take_append_drop]
 have e2:T.set i t=T.take i++t::T.drop (i+1):=set_eq_take_append_cons_drop .. |>.trans (by rw[if_pos hi])
 have htl:(rowsT (T.take i)).length=i*34:=by rw[rowsT_len (fun t ht=>hl t (mem_of_mem_take ht)),length_take,Nat.min_eq_left (by omega)]
 have hc:∀(x:RB) (A B:List RB),rowsT (A++x::B)=rowsT A++rbC x++rowsT B:=by intro x A B;simp[rowsT]
 rw[e2,hc]
 have:rowsT T=rowsT (T.take i)++rbC T[i]++rowsT (T.drop (i+1)):=by rw[←hc,←e]
 rw[this,append_assoc _ (rowsT (T.drop (i+1))) more,append_assoc _ (rowsT (T.drop (i+1))) more]
 exact splice_mid (by rw[htl];omega) (by rw[rbC_len ht,rbC_len (hl _ (getElem_mem hi))])
end
end Go.Gx
