/- node.Decode's reading function. mint.Read of node.Decode's reading function: its deferred call; node.Decode. mint.Read of node.Decode's reading function; node.Decode. The document's Reader: number, num, take. The document's Reader: num, Most, take, Read, Left. The document's reading of one entry, an -/
import Derived.Test.YtplmnkogkfhaiaaGreatT4
import Derived.Test.YtplmnkogkfhaiaaGreatT2
set_option linter.unusedVariables false
set_option linter.unusedSimpArgs false
set_option maxRecDepth 100000
namespace Go.Gx
open Go.Proofs List
def entsP (bs:(List UInt8)):Nat→(List UInt8)→Nat→Except Int (List Ent×Nat)
 | 0,_,p=>.ok ([],p)
 | n+1,a,p=>
  match entP a bs p with
  | .error e=>.error e
  | .ok (x,q)=>
   match entsP bs n x.name q with
   | .error e=>.error e
   | .ok (l,r)=>.ok (x::l,r)
def decP (bs:(List UInt8)):Except Int (List Ent×Nat):=
 match numP bs 0 with
 | .error e=>.error e
 | .ok (t,p)=>if t=1 then
   match mostP 1024 bs p with
   | .error e=>.error e
   | .ok (n,q)=>entsP bs n [] q
  else .error 52
def preR (l:List Ent):Except Int (List Ent×Nat)→Except Int (List Ent×Nat)
 | .error e=>.error e
 | .ok (m,q)=>.ok (l++m,q)
theorem preR_nil (r:Except Int (List Ent×Nat)):preR [] r=r:=by
 rcases r with e | ⟨m,q⟩ <;> rfl
theorem lastN_snoc (l:List Ent) (x:Ent):lastN (l++[x])=x.name:=by simp[lastN]
theorem entsP_step{bs:U8}{n:Nat}{a:U8}{p q:Nat}{x:Ent} (l:List Ent) (h:entP a bs p=.ok (x,q)):preR l (entsP bs (n+1) a p)=preR (l++[x]) (entsP bs n x.name q):=by
 conv=>lhs;unfold entsP
 rw[h]
 simp only
 rcases entsP bs n x.name q with e | ⟨m,r⟩
 ·rfl
 ·simp[preR]
theorem entsP_stop{bs:U8}{n:Nat}{a:U8}{p:Nat}{e:Int} (l:List Ent) (h:entP a bs p=.error e):preR l (entsP bs (n+1) a p)=.error e:=by
 conv=>lhs;unfold entsP
 rw[h]
 rfl
theorem entP_ok{bs a:U8}{p q:Nat}{x:Ent} (hl:bs.length≤1048576) (h:entP a bs p=.ok (x,q)):x.ok∧q≤bs.length∧p<q∧x.name.length≤1048576:=by
 unfold entP at h
 split at h
 ·cases h
 ·rename_i k p1 h1
  have hb1:=numP_ok h1
  split at h
  ·rename_i hk
   split at h
   ·cases h
   ·rename_i s p2 h2
    have hb2:=bytesP_ok h2
    have hl2:=bytesP_len h2
    split at h
    ·split at h
     ·cases h
     ·rename_i d p3 h3
      have hb3:=bytesP_ok h3
      split at h
      ·cases h
      ·rename_i hbad
       injection h with h;injection h with hx hq
       subst hx;subst hq
       have hdl:d.length≤32:=by
        rcases Nat.lt_or_ge 32 d.length with h' | h'
        ·exact absurd (.inl h') hbad
        ·exact h'
       refine⟨⟨?_,?_,?_,?_⟩,hb3.1,by omega,?_⟩
       ·simp[padD];omega
       ·show -9223372036854775808≤(k:Int)
        omega
       ·show(k:Int)≤9223372036854775807
        omega
       ·show s.length≤_
        omega
       ·show s.length≤_
        omega
    ·cases h
  ·cases h
def DecR (b bl:Nat) (bv:Value) (w0:World):Except Int (List Ent×Nat)→Ending→World→Prop
 | .ok (l,q),e,w'=>∃v Lv,e=.returned (.tuple #[])∧OwnSl 115 34 v l.length (rows l) Lv∧Oks l∧l.length≤1024∧q≤1048576∧Step [b,bl] (RdB b bv q::(bl,blk 116 [v])::Lv) w0 w'
 | .error er,e,w'=>∃p v Lv,e=.panicked (pch b)∧v.oneCell'=true∧Step [b,bl] (RF b bv p er::(bl,blk 116 [v])::Lv) w0 w'
theorem DecR.err{b bl:Nat}{bv:Value}{w0 w w':World}{er:Int}{r:Except Int (List Ent×Nat)}{p:Nat}{v:Value}{Lv:OL}{e:Ending} (hr:r=.error er) (hv:v.oneCell'=true) (hs:Step [b,bl] (RdB b bv p::(bl,blk 116 [v])::Lv) w0 w) (h:Thrown b bv er w e w'):DecR b bl bv w0 r e w':=by
 subst hr
 obtain⟨p',he,h⟩:=h
 exact⟨p',v,Lv,he,hv,Step.call (L1:=[RdB b bv p]) hs h⟩
theorem dec2_at{b bl:Nat}{bs:U8}{bv:Value}{r:Except Int (List Ent×Nat)} (hr:decP bs=r) (w0:World) (hsl:Sl w0 1 bv bs.length (u8s bs)) (hout:Outside bv [b,bl]) (hroom:Room bv) (hlen:bs.length≤1048576)
  (hO:Step [b,bl] (RdB b bv 0::(bl,blk 116 [.slice none 0 0])::[]) w0 w0):CP 125 #[pt b,pt bl] w0 (DecR b bl bv w0 r):=by
 have hs:=hO
 have hout1:Outside bv [b]:=by
  unfold Outside at hout⊢
  split
  ·intro h;exact hout (by simp at h⊢;exact .inl h)
  ·trivial
 have rd:∀{w:World}{p:Nat}{L:OL},Step [b,bl] (RdB b bv p::L) w0 w→RdOk w b bs bv p:=fun h=>⟨Step.own (L1:=[_]) h,hsl.step h hout,hout1,hroom,by omega⟩
 have hst:∀{w w':World}{p:Nat}{L L2:OL},Step [b,bl] (RdB b bv p::L) w0 w→Step [b] L2 w w'→Step [b,bl] (L2++L) w0 w':=fun h h2=>Step.call (L1:=[RdB b bv _]) h h2
 unfold decP at hr
 cases h1:numP bs 0 with
 | error er=>
  rw[h1] at hr
  refine calls (n:=24) Tryz.func125 rfl rfl rfl ?_
  refine cq<|sr<|wm<|WL.enterX (run_call en126 rfl rfl) (num_at h1 _ (rd hs) (by omega)) ?_
  rintro e w ⟨p',rfl,hq⟩
  refine⟨_,rfl,?_⟩
  exact fin_panic (.err hr.symm rfl hs ⟨p',rfl,hq⟩)
 | ok tp=>
  obtain⟨t,p1⟩:=tp
  rw[h1] at hr
  have hb1:=numP_ok h1
  simp only at hr
  by_cases ht:t=1
  ·rw[if_pos ht] at hr
   subst ht
   cases h2:mostP 1024 bs p1 with
   | error er=>
    rw[h2] at hr
    refine calls (n:=24) Tryz.func125 rfl rfl rfl ?_
    refine cq<|sr<|wm<|wE rfl (run_call en126 rfl rfl) (num_at h1 _ (rd hs) (by omega)) ?_
    rintro e w ⟨rfl,hq⟩
    refine⟨_,rfl,?_⟩
    replace hs:=hst hs hq
    refine wV (run_bF (run_neq rfl rfl) (by show ¬((1:Nat):Int)≠1;decide))<|wZ<|cF rfl<|ck<|sr<|wA<|wZ<|sr<|wm<|WL.enterX (run_call en128 rfl rfl) (most_at h2 _ (rd hs) hb1.1) ?_
    rintro e w ⟨p',rfl,hq2⟩
    refine⟨_,rfl,?_⟩
    exact fin_panic (.err hr.symm rfl hs ⟨p',rfl,hq2⟩)
   | ok nq=>
    obtain⟨n,q0⟩:=nq
    rw[h2] at hr
    have hb2:=mostP_ok h2
    simp only at hr
    refine calls (n:=24) Tryz.func125 rfl rfl rfl ?_
    refine cq<|sr<|wm<|wE rfl (run_call en126 rfl rfl) (num_at h1 _ (rd hs) (by omega)) ?_
    rintro e w ⟨rfl,hq⟩
    refine⟨_,rfl,?_⟩
    replace hs:=hst hs hq
    refine wV (run_bF (run_neq rfl rfl) (by show ¬((1:Nat):Int)≠1;decide))<|wZ<|cF rfl<|ck<|sr<|wA<|wZ<|sr<|wm<|wE rfl (run_call en128 rfl rfl) (most_at h2 _ (rd hs) hb1.1) ?_
    rintro e w ⟨rfl,hq2⟩
    refine⟨_,rfl,?_⟩
    replace hs:=hst hs hq2
    refine wm<|wZ<|cB<|CW.loop (fun m f w'=>∃i l q v Lv,i≤n∧m=n - i∧q≤bs.length∧l.length=i∧r=preR l (entsP bs (n - i) (lastN l) q)∧OwnSl 115 34 v l.length (rows l) Lv∧Oks l∧(lastN l).length≤1048576∧Step [b,bl] (RdB b bv q::(bl,blk 116 [v])::Lv) w0 w'∧Holds f [(0,pt b),(1,pt bl),(3,str (lastN l)),(11,.int .i64 n),(12,.int .i64 i)]) (m:=n) ?_ ?_
    ·exact⟨0,[],q0,_,[],by omega,by omega,hb2.1,rfl,by rw[preR_nil];exact hr.symm,.nil _ _,Oks.nil,by simp[lastN],hs,rfl,rfl,rfl,rfl,rfl,trivial⟩
    ·rintro m f w ⟨i,l,q,v,Lv,hi,rfl,hq0,hll,hr,hv,hok,hla,hs,hf⟩
     have ob:=hf.chain
     obtain⟨g,rfl⟩:=ob
     refine sr<|wV (run_lss rfl rfl)<|wZ<|cq<|CW.condP rfl (fun h=>?_) (fun h=>?_)
     ·have hlt:i<n:=by omega
      have ob:∃j,n - i=j+1:=⟨n - i - 1,by omega⟩
      obtain⟨j,hj⟩:=ob
      rw[hj] at hr
      cases h3:entP (lastN l) bs q with
      | error er=>
       rw[entsP_stop l h3] at hr
       refine ck<|cq<|cB<|sr<|wm<|wm<|WL.enterX (run_call en129 rfl rfl) (entry_at h3 _ (rd hs) hq0 (by omega)) ?_
       rintro e w ⟨p',rfl,hq3⟩
       refine⟨_,rfl,?_⟩
       exact fin_panic (.err hr hv.one hs ⟨p',rfl,hq3⟩)
      | ok xq=>
       obtain⟨x,q'⟩:=xq
       rw[entsP_step l h3] at hr
       have hxo:=entP_ok hlen h3
       have ob:=hv.form
       obtain⟨va,vc,rfl⟩:=ob
       have hxl:=Ent.cells_len hxo.1
       refine ck<|cq<|cB<|sr<|wm<|wm<|wE rfl (run_call en129 rfl rfl) (entry_at h3 _ (rd hs) hq0 (by omega)) ?_
       rintro e w ⟨rfl,hq3⟩
       refine⟨_,rfl,?_⟩
       replace hs:=hst hs hq3
       refine WL.alloc ty115 rfl hs (fun b4 w hs=>?_)
       refine WL.storeAll ty115 rfl rfl (hxl) (x.cells1) (hs) rfl (fun w hs=>?_)
       refine wZ<|CW.any (A:=fun w=>Step [b,bl] [(b4,blk 115 x.cells),RdB b bv q'] w0 w) (C:=fun w=>Step [b,bl] [(b4,blk 115 x.cells),RdB b bv q',(bl,blk 116 [.slice va l.length vc])] w0 w) 6 8 mixedP rfl ?_
       replace hs:=hs.drew
       refine aL 0 rfl ty116 rfl (fun w hs=>hs.tail.tail.c0 rfl)<|aV 1 rfl (fun w hs=>run_loadN ty115 rfl hxl hs.a0)<|AL.valA 4 rfl (by kernel_rfl) rfl (fun w hs=>run_field (o':=0) u115 rfl ty9 rfl rfl rfl) ?_
       refine AL.valA 5 rfl (by kernel_rfl) rfl (fun w hs=>run_load1 ty9 rfl (hs.c0 rfl)) ?_
       refine AL.one 2 (by kernel_rfl) rfl (Step.dropR (L1:=[_,_]) hs) (Step.dropR (L1:=[_,_,_]) hs) ?_
       refine WL.buildSlice (cs:=x.cells) u116 ty115 rfl (by decide) rfl (filled1 hxl rfl) rfl hs (fun b19 w hs=>?_)
       have hsl19:Sl w 34 (.slice (some ⟨b19,0,none⟩) 1 1) 1 x.cells:=.own1 hs (by rw[hxl])
       replace hs:Step [b,bl] ([_,_,_]++(Lv++[_])) w0 w:=hs.rot1
       refine wZ<|⟨rfl,?_⟩
       refine AL.one 3 (by kernel_rfl) rfl (Step.dropR (L1:=[_,_]) hs) (Step.dropR (L1:=[_,_,_]) hs) ?_
       refine WL.append u116 u116 ty115 rfl (by decide) rfl rfl (hv) ((by have:=hs.append_comm;rw[append_assoc] at this;exact this)) (hsl19) (x.cells1) (by omega) rfl (fun v20 Lv20 w hv20 hs=>?_)
       replace hs:=Step.tail (Step.append_comm hs)
       refine wZ<|⟨rfl,?_⟩
       refine AL.one 6 (by kernel_rfl) rfl (Step.dropR (L1:=[_,_]) hs) (Step.dropR (L1:=[_,_,_]) hs) ?_
       refine ws1 ty116 rfl rfl (hv20.one) (hs.rot3) (fun w hs=>?_)
       replace hs:=hs.rot3.rot3
       refine wZ<|⟨rfl,?_⟩
       refine AL.relax (by kernel_rfl) ?_
       refine AL.valA 7 rfl (by kernel_rfl) rfl (fun w hs=>run_assign) ?_
       refine AL.end (by kernel_rfl) (Step.dropR (L1:=[_,_]) hs) (trivial) ?_
       replace hs:=hs.tail
       refine cr<|wP ((i+1:Nat):Int)<|wm<|wZ<|(show _∧_ from⟨rfl,_,?_,i+1,l++[x],q',_,_,by omega,rfl,hxo.2.1,?_,?_,?_,hok.append (Oks.one hxo.1),?_,hs,rfl,rfl,?_,rfl,rfl,trivial⟩)
       ·omega
       ·simp[hll]
       ·rw[hr,lastN_snoc,show n - (i+1)=j by omega]
       ·rw[length_append,rows_append,rows_one]
        exact hv20
       ·rw[lastN_snoc];exact hxo.2.2.2
       ·rw[lastN_snoc];rfl
     ·obtain rfl:i=n:=by omega
      refine CW.exit<|fin_end0 rfl ?_
      have e:r=.ok (l,q):=by
       rw[hr,show i - i=0 by omega]
       simp[entsP,preR]
      rw[e]
      exact⟨v,Lv,rfl,hv,hok,by omega,by omega,hs⟩
  ·rw[if_neg ht] at hr
   refine calls (n:=24) Tryz.func125 rfl rfl rfl ?_
   refine cq<|sr<|wm<|wE rfl (run_call en126 rfl rfl) (num_at h1 _ (rd hs) (by omega)) ?_
   rintro e w ⟨rfl,hq⟩
   refine⟨_,rfl,?_⟩
   replace hs:=hst hs hq
   refine wV (run_bT (run_neq rfl rfl) (by show(t:Int)≠1;omega))<|wZ<|cT rfl<|cr<|wm<|WL.enterX (run_call en127 rfl rfl) (fail_throw (bs:=bs) (er:=52) _ (rd hs) (by decide)) ?_
   rintro e w ⟨p',rfl,hq2⟩
   refine⟨_,rfl,?_⟩
   exact fin_panic (.err hr.symm rfl hs ⟨p',rfl,hq2⟩)
section
variable{P:Program}{f:Slots}{w:World}{d:Option Tmp}{ty:TypeId}{pos:String}{af:Array Edge}{x y:Operand}{I T':TypeId}
theorem run_neqIfaceNil{ms:_}{T:TypeId}{v:Value} (ht:P.underlying I=some (.interface ms)) (hx:ev f x=.iface T v) :
  (execOp (ev f) ⟨d,.binOp .neq I x (.const .nilIface) T',ty,pos,af,none⟩).run P w=.ok (.value (.bool true)) w:=by
 have e:ev f (.const .nilIface)=.nilIface:=rfl
 have h0:∀d,(Op.equalIn (d+1) I (.iface T v) .nilIface).run P w=.ok false w:=fun d=>by simp[Op.equalIn,run_underlying ht]
 have h:(Op.equal I (.iface T v) .nilIface).run P w=.ok false w:=h0 9999
 simp[execOp,hx,e,eqGuard,binOp,h]
theorem run_neqNilNil{ms:_} (ht:P.underlying I=some (.interface ms)) (hx:ev f x=.nilIface) :
  (execOp (ev f) ⟨d,.binOp .neq I x (.const .nilIface) T',ty,pos,af,none⟩).run P w=.ok (.value (.bool false)) w:=by
 have e:ev f (.const .nilIface)=.nilIface:=rfl
 have h0:∀d,(Op.equalIn (d+1) I .nilIface .nilIface).run P w=.ok true w:=fun d=>by simp[Op.equalIn,run_underlying ht]
 have h:(Op.equal I .nilIface .nilIface).run P w=.ok true w:=h0 9999
 simp[execOp,hx,e,eqGuard,binOp,h]
theorem run_neqPtrSame{E:TypeId}{agg:Bool}{n by_:Nat}{zs:List Value}{a:Addr} (ht:P.underlying I=some (.pointer E)) (hE:Ty P E agg n by_ zs) (hn:n≠0) (hx:ev f x=.pointer (some a)) (hy:ev f y=.pointer (some a)) :
  (execOp (ev f) ⟨d,.binOp .neq I x y T',ty,pos,af,none⟩).run P w=.ok (.value (.bool false)) w:=by
 have h0:∀d,(Op.equalIn (d+1) I (.pointer (some a)) (.pointer (some a))).run P w=.ok true w:=fun d=>by simp[Op.equalIn,run_underlying ht,run_sizeOf hE,hn,sameAddr]
 have h:(Op.equal I (.pointer (some a)) (.pointer (some a))).run P w=.ok true w:=h0 9999
 simp[execOp,hx,hy,eqGuard,binOp,h]
theorem run_tA{v r:Value}{T A:TypeId}{ok:Bool} (hx:ev f x=v) (h:(Instr.typeAssert v T A ok).run P w=.ok r w) :
  (execOp (ev f) ⟨d,.typeAssert x T A ok,ty,pos,af,none⟩).run P w=.ok (.value r) w:=by
 simp[execOp,hx,h]
end
theorem tA_nil (w:World):(Instr.typeAssert .nilIface 20 268 true).run Tryz.prog w=.ok (.tuple #[.agg #[.pointer none],.bool false]) w:=by kernel_rfl
def RdL (b5 b9 b4:Nat) (bv:Value) (q:Nat) (ov:Bool) (ft er:Int):(List (Nat×Obj)):=[(b9,blk 266 [bv,.int .i64 q,.bool ov,.int .i64 ft]),(b5,blk 228 [.pointer (some ⟨b9,0,none⟩)]),(b4,blk 36 [.int .i64 er])]
theorem rd1_ret{b5 b9 b4 q m c:Nat}{a:Option Addr} (w0:World) (hO:Step [b9,b5,b4] (RdL b5 b9 b4 (.slice a m c) q false 0 0) w0 w0) :
  CallsD Tryz.prog 159 #[pt b5,pt b4] .returning w0 fun e u' w'=>(∃v,e=.returned v)∧settle u'=.returning∧Step [b9,b5,b4] (RdL b5 b9 b4 (.slice a m c) q true 0 (if q<m then 13 else 0)) w0 w':=by
 have hs:=hO
 unfold RdL at hs
 refine callsD_rec (n:=48) Tryz.func159 rfl rfl rfl ?_
 intro c0 cs hc0
 refine CS.seq (CS.of ?_)
 refine cr<|wl ty228 rfl (hs.c1 rfl)<|wn rfl<|wF 2 u266 rfl ty4 rfl<|ws1 ty4 rfl rfl (rfl) (hs) (fun w hs=>?_)
 refine wZ<|CS.seq (CS.recover (v:=.nilIface) (cs':=c0::cs) rfl rfl (.inr ⟨by simp[recoverD,hc0],rfl,rfl⟩) ?_)
 refine CS.of ?_
 refine cq<|sr<|wm<|wV (run_tA rfl (tA_nil _))<|wm<|wx rfl rfl<|wx rfl rfl<|WL.alloc ty268 rfl hs (fun b3 w hs=>?_)
 refine WL.storeAll ty268 rfl rfl (rfl) ((fun v hv=>by simp at hv;subst hv;rfl)) (hs) rfl (fun w hs=>?_)
 refine wA<|wZ<|sr<|wm<|wV (run_neqNilNil u20 rfl)<|wm<|wz<|wz<|wz<|wz<|wz<|wz<|wz<|wz<|pF<|wZ ?_
 refine cF rfl<|ck<|cB<|sr<|wl ty228 rfl (hs.c2 rfl)<|wn rfl<|wF 3 u266 rfl ty36 rfl<|wl ty36 rfl (hs.c1 rfl)<|nF<|wA<|wZ ?_
 by_cases hq:q<m
 ·refine cF rfl<|cq<|CW.quiet mixedP (by kernel_rfl) hs ?_
  refine qL ty228 rfl (fun w hs=>hs.c2 rfl)<|qn rfl<|qF 1 u266 rfl ty3 rfl<|qL ty3 rfl (fun w hs=>hs.c1 rfl)<|qL ty228 rfl (fun w hs=>hs.c2 rfl)<|qn rfl<|qF 0 u266 rfl ty76 rfl<|qL ty76 rfl (fun w hs=>hs.c1 rfl)<|qV (fun w hs=>run_lenSl u76 rfl)<|qV (fun w hs=>run_bT (run_lss rfl rfl) (by omega))<|qA<|QL.nil (fun w hs=>?_)
  refine cT rfl<|cr<|ws1 ty36 rfl rfl (rfl) ((hs.front [_,_,_])) (fun w hs=>?_)
  refine wZ<|finS_end0 (u':=c0.mode) rfl ⟨⟨_,rfl⟩,by rw[hc0];rfl,?_⟩
  rw[if_pos hq]
  exact(hs.swap.tail).rot1
 ·refine cF rfl<|cq<|CW.quiet mixedP (by kernel_rfl) hs ?_
  refine qL ty228 rfl (fun w hs=>hs.c2 rfl)<|qn rfl<|qF 1 u266 rfl ty3 rfl<|qL ty3 rfl (fun w hs=>hs.c1 rfl)<|qL ty228 rfl (fun w hs=>hs.c2 rfl)<|qn rfl<|qF 0 u266 rfl ty76 rfl<|qL ty76 rfl (fun w hs=>hs.c1 rfl)<|qV (fun w hs=>run_lenSl u76 rfl)<|qV (fun w hs=>run_bF (run_lss rfl rfl) (by omega))<|qA<|QL.nil (fun w hs=>?_)
  refine cF rfl<|ck<|finS_end0 (u':=c0.mode) rfl ⟨⟨_,rfl⟩,by rw[hc0];rfl,?_⟩
  rw[if_neg hq]
  exact hs.tail
theorem rd1_panic{b5 b9 b4 q:Nat}{bv:Value}{er:Int} (he:er≠0) (w0:World) (hO:Step [b9,b5,b4] (RdL b5 b9 b4 bv q true er 0) w0 w0) :
  CallsD Tryz.prog 159 #[pt b5,pt b4] (.panicking (pch b9)) w0 fun e u' w'=>(∃v,e=.returned v)∧settle u'=.returning∧Step [b9,b5,b4] (RdL b5 b9 b4 bv q true er er) w0 w':=by
 have hs:=hO
 unfold RdL at hs
 refine callsD_rec (n:=48) Tryz.func159 rfl rfl rfl ?_
 intro c0 cs hc0
 refine CS.seq (CS.of ?_)
 refine cr<|wl ty228 rfl (hs.c1 rfl)<|wn rfl<|wF 2 u266 rfl ty4 rfl<|ws1 ty4 rfl rfl (rfl) (hs) (fun w hs=>?_)
 refine wZ<|CS.seq (CS.recover (v:=pv b9) (cs':={ c0 with mode:=.panicking [{ v:=pv b9,recovered:=true }] }::cs) rfl rfl (.inl (by simp[recoverD,hc0,pch])) ?_)
 refine CS.of ?_
 refine cq<|sr<|wm<|wV (run_assertOk u268 rfl rfl)<|wm<|wx rfl rfl<|wx rfl rfl<|WL.alloc ty268 rfl hs (fun b3 w hs=>?_)
 refine WL.storeAll ty268 rfl rfl (rfl) ((fun v hv=>by simp at hv;subst hv;rfl)) (hs) rfl (fun w hs=>?_)
 refine wA<|wZ<|sr<|wm<|wV (run_neqIfaceNil u20 rfl)<|wm<|wy<|wm<|wy<|wN rfl<|wy<|wm<|wy<|wF 0 u268 rfl ty228 rfl<|wy<|wl ty228 rfl (hs.c0 rfl)<|wy<|wl ty228 rfl (hs.c2 rfl)<|wy<|wV (run_neqPtrSame u228 ty266 (by decide) rfl rfl)<|wy<|pF<|pT ?_
 refine wZ<|cF rfl<|ck<|cB<|sr<|wl ty228 rfl (hs.c2 rfl)<|wn rfl<|wF 3 u266 rfl ty36 rfl<|wl ty36 rfl (hs.c1 rfl)<|wV (run_bT (run_neq rfl rfl) (by exact he))<|wA<|wZ<|cT rfl<|cr<|wl ty228 rfl (hs.c2 rfl)<|wn rfl<|wF 3 u266 rfl ty36 rfl<|wl ty36 rfl (hs.c1 rfl) ?_
 refine ws1 ty36 rfl rfl (rfl) ((hs.front [_,_,_])) (fun w hs=>?_)
 refine wZ ?_
 exact finS_end0 rfl ⟨⟨_,rfl⟩,rfl,(hs.swap.tail).rot1⟩
theorem entP_err{bs a:U8}{p:Nat}{e:Int} (h:entP a bs p=.error e):e≠0:=by
 have hb:∀{p:Nat}{e:Int},bytesP bs p=.error e→e≠0:=fun {p e} h=>by
  unfold bytesP at h
  split at h
  ·rename_i h1;injection h with h;subst h;rcases numP_err h1 with h | h <;> omega
  ·split at h
   ·injection h with h;omega
   ·cases h
 unfold entP at h
 split at h
 ·rename_i h1;injection h with h;subst h;rcases numP_err h1 with h | h <;> omega
 ·split at h
  ·split at h
   ·rename_i h1;injection h with h;subst h;exact hb h1
   ·split at h
    ·split at h
     ·rename_i h1;injection h with h;subst h;exact hb h1
     ·split at h
      ·injection h with h;omega
      ·cases h
    ·injection h with h;omega
  ·injection h with h;omega
theorem entsP_err{bs:U8}:∀{n:Nat}{a:U8}{p:Nat}{e:Int},entsP bs n a p=.error e→e≠0
 | 0,a,p,e,h=>by cases h
 | n+1,a,p,e,h=>by
  unfold entsP at h
  split at h
  ·rename_i h1;injection h with h;subst h;exact entP_err h1
  ·split at h
   ·rename_i h1;injection h with h;subst h;exact entsP_err h1
   ·cases h
theorem decP_err{bs:U8}{e:Int} (h:decP bs=.error e):e≠0:=by
 unfold decP at h
 split at h
 ·rename_i h1;injection h with h;subst h;rcases numP_err h1 with h | h <;> omega
 ·split at h
  ·split at h
   ·rename_i h1
    injection h with h;subst h
    unfold mostP at h1
    split at h1
    ·rename_i h2;injection h1 with h;subst h;rcases numP_err h2 with h | h <;> omega
    ·split at h1
     ·injection h1 with h;omega
     ·cases h1
   ·exact entsP_err h
  ·injection h with h;omega
def readP (bs:(List UInt8)):Int×List Ent:=match decP bs with
 | .error e=>(e,[])
 | .ok (l,q)=>if q<bs.length then (13,[]) else (0,l)
def ReadR (bl:Nat) (bs:(List UInt8)) (w0:World) (e:Ending) (w':World):Prop:=∃u Lv G,e=.returned (.int .i64 (readP bs).1)∧Cell1 u∧((readP bs).1=0→OwnSl 115 34 u (readP bs).2.length (rows (readP bs).2) Lv∧Oks (readP bs).2∧(readP bs).2.length≤1024)∧Step [bl] ((bl,blk 116 [u])::(Lv++G)) w0 w'
theorem bld_reader (a:Option Addr) (m c:Nat) (w:World):(Instr.build 266 #[(0,.slice a m c)]).run Tryz.prog w=.ok (.agg #[.slice a m c,.int .i64 0,.bool false,.int .i64 0]) w:=by kernel_rfl
theorem read_at{bl:Nat}{bs:U8}{v:Value} (w0:World) (hv:Sl w0 1 v bs.length (u8s bs)) (hout:u8s bs=[]∨Outside v [bl]) (hlen:bs.length≤1048576) (hO:Step [bl] [(bl,blk 116 [.slice none 0 0])] w0 w0) :
  CP 124 #[v,.func (.func 125) #[] #[pt bl]] w0 (ReadR bl bs w0):=by
 have hs:=hO
 refine callsDef (n:=14) Tryz.func124 rfl rfl rfl ?_
 refine sr<|WL.alloc ty36 rfl hs (fun b4 w hs=>?_)
 refine wZ<|sr<|wm<|wE rfl (run_call en83 rfl rfl) (clone_spec (s:=bs) _ (hv.stepK hs hout) (by omega)) ?_
 rintro e w ⟨v',Lv',rfl,hv',hq⟩
 refine⟨_,rfl,?_⟩
 have ob:=hv'.form
 obtain⟨va,vc,rfl⟩:=ob
 replace hs:=(hs.call0 hq).append_comm
 refine wV (run_build rfl (bld_reader _ _ _ _))<|WL.box (cs:=[.slice va bs.length vc,.int .i64 0,.bool false,.int .i64 0]) rfl rfl rfl hs (fun b9 w hs=>?_)
 refine WL.alloc ty228 rfl hs (fun b5 w hs=>?_)
 refine ws1 ty228 rfl rfl (rfl) (hs) (fun w hs=>?_)
 refine wZ ?_
 replace hs:=Step.front [_,_] (Step.front [_,_,_] hs)
 have hs4:=hs
 have hown:Step [b9,bl] [RdB b9 (.slice va bs.length vc) 0,(bl,blk 116 [.slice none 0 0])] w w:=Step.own (L1:=[_,_]) hs
 have hcomm:=Step.append_comm (L1:=[_,_,_,_]) hs
 have hsl:=hv'.sl hcomm
 have hvo:Outside (.slice va bs.length vc) [b9,bl]:=hv'.outside fun p hp h=>hcomm.disj p hp (by simp at h⊢;rcases h with h | h <;> simp[h])
 refine sr<|wV (run_makeFuncC rfl)<|WL.defer (run_deferV (cap:=[pt b5,pt b4]) rfl) ?_
 refine wZ ?_
 have hdec:=fun r hr=>dec2_at (r:=r) hr w hsl hvo (hv'.room (by decide)) hlen hown
 cases hr:decP bs with
 | error er=>
  have hne:=decP_err hr
  have he:readP bs=(er,[]):=by unfold readP;rw[hr]
  refine sr<|wm<|wl ty228 rfl ((hs.tail.tail.c0 rfl))<|WL.enterX (run_callV (cap:=[pt bl]) en125 rfl rfl) (hdec _ hr) ?_
  rintro e w ⟨p,u,Lu,rfl,hu1,hq2⟩
  refine⟨_,rfl,?_⟩
  replace hs:=Step.two (X:=_::Lu) (Step.call (L1:=[RdB b9 _ 0,(bl,_)]) hs hq2)
  refine finD_panic (cap:=[pt b5,pt b4]) en159 ((rd1_panic hne _ (Step.own (L1:=[_,_,_]) hs)).mono fun e u' w' h=>?_)
  obtain⟨h1,h2,hq3⟩:=h
  refine⟨h1,h2,fun a ha=>?_⟩
  replace hs:=Step.call (L1:=[_,_,_]) hs hq3
  exact⟨_,res_cell1 ha rfl rfl (run_loadVar1 ty36 (hs.c2 rfl)),u,Lu,Lv',by rw[he],hu1,fun h=>absurd (by rw[he] at h;exact h) hne,Step.dropL (L1:=[_,_,_]) hs⟩
 | ok lq=>
  obtain⟨l,q⟩:=lq
  refine sr<|wm<|wl ty228 rfl ((hs.tail.tail.c0 rfl))<|wE rfl (run_callV (cap:=[pt bl]) en125 rfl rfl) (hdec _ hr) ?_
  rintro e w ⟨u,Lu,rfl,hu,hlo,hll,hqb,hq2⟩
  refine⟨_,rfl,?_⟩
  refine wZ ?_
  replace hs:=Step.front [_,_] (Step.two (X:=_::Lu) (Step.call (L1:=[RdB b9 _ 0,(bl,_)]) hs hq2))
  refine sr<|ws1 ty36 rfl rfl (rfl) (hs) (fun w hs=>?_)
  refine wZ ?_
  replace hs:=hs.rot3.rot3
  refine CW.ret ?_
  refine finD_ret (cap:=[pt b5,pt b4]) en159 ((rd1_ret _ (Step.own (L1:=[_,_,_]) hs)).mono fun e u' w' h=>?_)
  obtain⟨h1,h2,hq3⟩:=h
  refine⟨h1,h2,fun a ha=>?_⟩
  replace hs:=Step.call (L1:=[_,_,_]) hs hq3
  refine⟨_,res_cell1 ha rfl rfl (run_loadVar1 ty36 (hs.c2 rfl)),u,Lu,Lv',?_,hu.one,?_,Step.dropL (L1:=[_,_,_]) hs⟩
  ·unfold readP
   rw[hr]
   by_cases hlt:q<bs.length <;> simp[hlt]
  ·intro h0
   have he:readP bs=(0,l):=by
    unfold readP at h0⊢
    rw[hr] at h0⊢
    simp only at h0⊢
    split at h0
    ·cases h0
    ·rename_i hlt;rw[if_neg hlt]
   rw[he]
   exact⟨hu,hlo,hll⟩
def decE (bs:(List UInt8)):Int:=if 1048576<bs.length then 2 else (readP bs).1
def decL (bs:(List UInt8)):List Ent:=if decE bs=0 then (readP bs).2 else []
theorem dec1_at{b2 b3:Nat}{er:Int}{u:Value}{md:FrameMode} (w0:World) (hO:Step [b2,b3] [(b2,blk 116 [u]),(b3,blk 36 [.int .i64 er])] w0 w0) :
  CallsD Tryz.prog 123 #[pt b3,pt b2] md w0 fun e u' w'=>u'=md∧(e=.returned (.tuple #[])∧Step [b2,b3] [(b2,blk 116 [if er=0 then u else .slice none 0 0]),(b3,blk 36 [.int .i64 er])] w0 w'):=by
 have hs:=hO
 refine callsD_plain (n:=4) Tryz.func123 rfl rfl rfl ?_
 by_cases he:er=0
 ·refine sr<|wl ty36 rfl (hs.c1 rfl)<|wV (run_bF (run_neq rfl rfl) (by simpa using he))<|wZ<|cF rfl<|ck<|fin_end0 rfl ?_
  rw[if_pos he]
  exact⟨rfl,hs⟩
 ·refine sr<|wl ty36 rfl (hs.c1 rfl)<|wV (run_bT (run_neq rfl rfl) (by exact he))<|wZ<|cT rfl<|cr<|ws1 ty116 rfl rfl (rfl) (hs) (fun w hs=>?_)
  refine wZ<|fin_end0 rfl ?_
  rw[if_neg he]
  exact⟨rfl,hs⟩
theorem decode_at{bs:U8}{v:Value} (w0:World) (hv:Sl w0 1 v bs.length (u8s bs)) (hlen:bs.length≤9223372036854775807) :
  CP 78 #[v] w0 fun e w'=>∃u Lv,e=.returned (.tuple #[u,.int .i64 (decE bs)])∧OwnSl 115 34 u (decL bs).length (rows (decL bs)) Lv∧Oks (decL bs)∧(decL bs).length≤1024∧Step [] Lv w0 w':=by
 have hs:Step [] [] w0 w0:=Step.refl w0
 obtain⟨a,c,rfl⟩:∃a c,v=.slice a bs.length c:=by
  have ob:=id hv
  obtain⟨_,⟨_,c,rfl,h0⟩ | ⟨b,off,c,rfl,_⟩⟩:=ob
  ·exact⟨_,_,by rw[h0]⟩
  ·exact⟨_,_,rfl⟩
 refine callsDef (n:=13) Tryz.func78 rfl rfl rfl ?_
 refine sr<|WL.alloc ty116 rfl hs (fun b2 w hs=>?_)
 refine WL.alloc ty36 rfl hs (fun b3 w hs=>?_)
 refine wZ ?_
 by_cases hbig:1048576<bs.length
 ·have he:decE bs=2:=if_pos hbig
  have hl:decL bs=[]:=by unfold decL;rw[he];rfl
  refine cq<|sr<|wm<|wL u76 rfl<|xT<|wZ<|cT rfl<|sr<|ws1 ty116 rfl rfl (rfl) (hs.swap) (fun w hs=>?_)
  refine ws1 ty36 rfl rfl (rfl) (hs.swap) (fun w hs=>?_)
  refine wZ<|CW.ret ?_
  refine finD_ret0 fun a ha=>⟨_,res_cell2 ha rfl rfl rfl (run_loadVar1 ty116 (hs.c1 rfl)) (run_loadVar1 ty36 (hs.c0 rfl)),?_⟩
  rw[he,hl]
  exact⟨_,_,rfl,.nil _ _,Oks.nil,by simp,hs.clear⟩
 ·have he:decE bs=(readP bs).1:=if_neg hbig
  refine cq<|sr<|wm<|wL u76 rfl<|xF<|wZ<|cF rfl<|ck<|sr<|wV (run_makeFuncC rfl)<|WL.defer (run_deferV (cap:=[pt b3,pt b2]) rfl) ?_
  refine wZ ?_
  replace hs:=hs.swap
  refine sr<|wm<|wV (run_makeFuncC rfl)<|wE rfl (run_call en124 rfl rfl) (read_at _ (hv.step0 hs.clear) (Outside.newer hv hs (fun k hk=>by simp at hk⊢;exact .inl hk)) (by omega) (Step.own (L1:=[_]) hs)) ?_
  rintro e w ⟨u,Lv,G,rfl,hu1,hok,hq⟩
  refine⟨_,rfl,?_⟩
  replace hs:=Step.call (L1:=[_]) hs hq
  replace hs:=Step.append_comm hs
  refine ws1 ty36 rfl rfl (rfl) (hs) (fun w hs=>?_)
  refine wZ ?_
  replace hs:=hs.swap
  refine cq<|CW.any (A:=fun w=>Step [] [(b2,blk 116 [u]),(b3,blk 36 [.int .i64 (readP bs).1])] w0 w) (C:=fun w=>Step [] [(b2,blk 116 [u]),(b3,blk 36 [.int .i64 (readP bs).1])] w0 w) 1000000 4 mixedP rfl ?_
  replace hs:=hs.drew
  refine aL 0 rfl ty116 rfl (fun w hs=>hs.c0 rfl)<|aL 1 rfl ty36 rfl (fun w hs=>hs.c1 rfl)<|AL.one 2 (by kernel_rfl) rfl (Step.dropR (L1:=[_,_]) hs) (Step.dropR (L1:=[_,_]) hs) ?_
  refine ws1 ty116 rfl rfl (hu1) hs (fun w hs=>?_)
  refine wZ<|⟨rfl,?_⟩
  refine AL.one 3 (by kernel_rfl) rfl (Step.dropR (L1:=[_,_]) hs) (Step.dropR (L1:=[_,_]) hs) ?_
  refine ws1 ty36 rfl rfl (rfl) (hs.swap) (fun w hs=>?_)
  replace hs:=hs.swap
  refine wZ<|⟨rfl,?_⟩
  refine AL.end (by kernel_rfl) (Step.dropR (L1:=[_,_]) hs) (Step.dropR (L1:=[_,_]) hs) ?_
  refine CW.ret ?_
  refine finD_ret (cap:=[pt b3,pt b2]) en123 ((dec1_at _ (Step.own (L1:=[_,_]) hs)).mono fun e u' w' h=>?_)
  obtain⟨h1,rfl,hq3⟩:=h
  refine⟨⟨_,rfl⟩,by rw[h1];rfl,fun a ha=>?_⟩
  replace hs:=Step.call (L1:=[_,_]) hs hq3
  by_cases h0:(readP bs).1=0
  ·rw[if_pos h0] at hs
   have ob:=hok h0
   obtain⟨ho1,ho2,ho3⟩:=ob
   refine⟨_,res_cell2 ha rfl rfl rfl (run_loadVar1 ty116 (hs.c0 rfl)) (run_loadVar1 ty36 (hs.c1 rfl)),?_⟩
   have hl:decL bs=(readP bs).2:=by unfold decL;rw[he,if_pos h0]
   rw[he,hl]
   exact⟨u,Lv,rfl,ho1,ho2,ho3,Step.dropR (Step.dropL (L1:=[_,_]) hs)⟩
  ·rw[if_neg h0] at hs
   refine⟨_,res_cell2 ha rfl rfl rfl (run_loadVar1 ty116 (hs.c0 rfl)) (run_loadVar1 ty36 (hs.c1 rfl)),?_⟩
   have hl:decL bs=[]:=by unfold decL;rw[he,if_neg h0]
   rw[he,hl]
   exact⟨_,_,rfl,.nil _ _,Oks.nil,by simp,hs.clear⟩
theorem nbF_up{u k:Nat} (hu:u<256 ^ k):∀m,k≤m→nbF u m≤k
 | 0,h=>by unfold nbF;omega
 | m+1,h=>by
  unfold nbF
  by_cases hk:k=m+1
  ·split
   ·exact Nat.le_trans (nbF_le u m) (by omega)
   ·omega
  ·rw[if_pos (Nat.div_eq_of_lt (Nat.lt_of_lt_of_le hu (Nat.pow_le_pow_right (by decide) (by omega))))]
   exact nbF_up hu m (by omega)
theorem nbF_lo{u k:Nat} (hu:256 ^ k≤u):∀m,k<m→k<nbF u m
 | m+1,h=>by
  unfold nbF
  split
  ·rename_i hz
   by_cases hk:k=m
   ·subst hk
    have:=Nat.div_pos hu (Nat.pow_pos (by decide))
    omega
   ·exact nbF_lo hu m (by omega)
  ·omega
theorem beVal_cons (c:UInt8) (l:U8):beVal (c::l)=c.toNat*256 ^ l.length+beVal l:=by
 have gen:∀(l:U8) (a:Nat),l.foldl (fun u c=>u*256+c.toNat) a=a*256 ^ l.length+beVal l:=by
  intro l
  induction l with
  | nil=>intro a;simp[beVal]
  | cons d l ih=>
   intro a
   rw[foldl_cons,ih]
   unfold beVal
   rw[foldl_cons,ih (0*256+d.toNat),length_cons,Nat.pow_succ]
   unfold beVal
   rw[Nat.add_mul]
   generalize List.foldl _ 0 l=z
   generalize 256 ^ l.length=y
   rw[Nat.zero_mul,Nat.zero_add,Nat.mul_assoc,Nat.mul_comm 256 y]
   omega
 unfold beVal
 rw[foldl_cons,gen]
 simp[beVal]
theorem form_first{r:U8} (hr:0<r.length) (hr8:r.length≤8):((formB (beVal r)).length=1+r.length)↔¬(r[0]=0∨beVal r<248):=by
 have hlt:=beVal_lt r
 unfold formB
 split
 ·rename_i h
  constructor
  ·intro h1
   have h1:1=1+r.length:=h1
   omega
  ·intro h1;exact absurd (.inr h) h1
 ·rename_i h
  rw[length_cons,be_len]
  have hup:=nbF_up hlt 8 hr8
  match r,hr with
  | c::l,_=>
   have hc:=beVal_cons c l
   simp only[length_cons,getElem_cons_zero] at *
   by_cases h0:c=0
   ·subst h0
    have hlt2:=beVal_lt l
    have hz:beVal ((0:UInt8)::l)=beVal l:=by rw[hc];simp
    have:=nbF_up (u:=beVal ((0:UInt8)::l)) (by rw[hz];exact hlt2) 8 (by omega)
    constructor
    ·intro h1;omega
    ·intro h1;exact absurd (.inl rfl) h1
   ·have hpos:1≤c.toNat:=by
     rcases Nat.eq_zero_or_pos c.toNat with h1 | h1
     ·exact absurd (UInt8.toNat_inj.1 (by simpa using h1)) h0
     ·exact h1
    have hge:256 ^ l.length≤beVal (c::l):=by
     rw[hc]
     have:=Nat.mul_le_mul_right (256 ^ l.length) hpos
     omega
    have:=nbF_lo hge 8 (by omega)
    constructor
    ·intro _ h1
     rcases h1 with h1 | h1
     ·exact h0 h1
     ·exact h h1
    ·intro _;omega
def RRB (b:Nat) (bv:Value) (p:Nat) (e:Int):Nat×Obj:=(b,blk 186 [bv,.int .i64 p,.int .i64 e])
structure RrOk (w:World) (b:Nat) (bs:(List UInt8)) (bv:Value) (p:Nat):Prop where
 own:Step [b] [RRB b bv p 0] w w
 sl:Sl w 1 bv bs.length (u8s bs)
 out:bs=[]∨Outside bv [b]
 room:Room bv
 len:bs.length≤4194304
def RrN (b:Nat) (bv:Value) (p:Nat) (w0:World) (k:Nat→Value):Except Int (Nat×Nat)→Ending→World→Prop
 | .ok (u,q),e,w'=>e=.returned (.tuple #[k u,.int .i64 (q - p:Nat)])∧Step [b] [RRB b bv p 0] w0 w'
 | .error er,e,w'=>e=.returned (.tuple #[k 0,.int .i64 0])∧Step [b] [RRB b bv p er] w0 w'
theorem RrN.ok{b p:Nat}{bv:Value}{w0 w':World}{k:Nat→Value}{e:Ending}{r:Except Int (Nat×Nat)}{u q:Nat} (hr:r=.ok (u,q)) (he:e=.returned (.tuple #[k u,.int .i64 (q - p:Nat)])) (hs:Step [b] [RRB b bv p 0] w0 w'):RrN b bv p w0 k r e w':=by subst hr;exact⟨he,hs⟩
theorem RrN.err{b p:Nat}{bv:Value}{w0 w':World}{k:Nat→Value}{e:Ending}{r:Except Int (Nat×Nat)}{er:Int} (hr:r=.error er) (he:e=.returned (.tuple #[k 0,.int .i64 0])) (hs:Step [b] [RRB b bv p er] w0 w'):RrN b bv p w0 k r e w':=by subst hr;exact⟨he,hs⟩
theorem numberR_at{b p:Nat}{bs:U8}{bv:Value}{r:Except Int (Nat×Nat)} (hr:numberP bs p=r) (w0:World) (h:RrOk w0 b bs bv p) (hpl:p≤bs.length):CP 143 #[pt b] w0 (RrN b bv p w0 (fun u=>.int .u64 u) r):=by
 have hs:=h.own
 have hlen:=h.len
 unfold RRB at hs
 by_cases hp:bs.length≤p
 ·have e:r=.error 11:=by rw[←hr];unfold numberP;rw[if_pos hp]
  obtain⟨a,c,rfl⟩:∃a c,bv=.slice a bs.length c:=by
   have ob:=h.sl
   obtain⟨_,⟨_,c,rfl,h0⟩ | ⟨bb,off,c,rfl,_⟩⟩:=ob
   ·exact⟨_,_,by rw[h0]⟩
   ·exact⟨_,_,rfl⟩
  refine calls (n:=87) Tryz.func143 rfl rfl rfl ?_
  refine sr<|wA<|wA<|wZ<|cq<|cq<|CW.quiet mixedP (by kernel_rfl) hs ?_
  refine qm<|qn rfl<|qF 1 u186 rfl ty3 rfl<|qL ty3 rfl (fun w hs=>hs.c0 rfl)<|qm<|qn rfl<|qF 0 u186 rfl ty76 rfl<|qL ty76 rfl (fun w hs=>hs.c0 rfl)<|qV (fun w hs=>run_lenSl u76 rfl)<|qV (fun w hs=>run_bT (run_geq rfl rfl) (by omega))<|QL.nil (fun w hs=>?_)
  refine cT rfl<|sr<|wm<|wn rfl<|wF 2 u186 rfl ty3 rfl<|ws1 ty3 rfl rfl (rfl) (hs) (fun w hs=>?_)
  refine wZ<|sr<|wA<|wA<|wZ<|CW.ret ?_
  refine fin_ret2 rfl ?_
  exact .err e rfl hs
 ·have hp':p<bs.length:=by omega
  have hg:=getD_of hp'
  have hcl:=(bs[p]).toNat_lt
  have hne:bs≠[]:=fun e=>by rw[e] at hp';simp at hp'
  have ob:=id h.sl
  obtain⟨_,⟨_,c,rfl,h0⟩ | ⟨bb,off,c,rfl,hat⟩⟩:=ob
  ·omega
  have hbb:bb∉[b]:=h.out.resolve_left hne
  have hat1:∀{w:World}{L:OL},Step [b] L w0 w→At w bb off (u8s bs):=fun hs=>hat.step hs hbb
  have hcell:∀{w:World}{L:OL}{i:Nat} (hi:i<bs.length),Step [b] L w0 w→w.cell? ⟨bb,off+i*1,none⟩=some (.int .u8 (bs[i]).toNat):=fun {w L i} hi hs=>by
   rw[Nat.mul_one];exact(hat1 hs).cell (by simp[u8s,hi])
  by_cases hc:(bs[p]).toNat<248
  ·have e:r=.ok ((bs[p]).toNat,p+1):=by rw[←hr];unfold numberP;rw[if_neg hp,hg,if_pos hc]
   refine calls (n:=87) Tryz.func143 rfl rfl rfl ?_
   refine sr<|wA<|wA<|wZ<|cq<|cq<|CW.quiet mixedP (by kernel_rfl) hs ?_
   refine qm<|qn rfl<|qF 1 u186 rfl ty3 rfl<|qL ty3 rfl (fun w hs=>hs.c0 rfl)<|qm<|qn rfl<|qF 0 u186 rfl ty76 rfl<|qL ty76 rfl (fun w hs=>hs.c0 rfl)<|qV (fun w hs=>run_lenSl u76 rfl)<|qV (fun w hs=>run_bF (run_geq rfl rfl) (by omega))<|QL.nil (fun w hs=>?_)
   refine cF rfl<|ck<|cq<|CW.quiet mixedP (by kernel_rfl) hs ?_
   refine qm<|qn rfl<|qF 0 u186 rfl ty76 rfl<|qL ty76 rfl (fun w hs=>hs.c0 rfl)<|qm<|qn rfl<|qF 1 u186 rfl ty3 rfl<|qL ty3 rfl (fun w hs=>hs.c0 rfl)<|qI u76 ty5 rfl rfl<|qL ty5 rfl (fun w hs=>hcell hp' hs)<|qV (fun w hs=>run_convI64 u5 u3 rfl (by omega))<|qA<|QL.nil (fun w hs=>?_)
   refine cq<|sr<|wm<|iT<|wZ<|cT rfl<|sr<|wm<|wV (run_convU64 u3 u240 rfl (by omega))<|wA<|wA<|wZ ?_
   refine CW.ret ?_
   refine fin_ret2 rfl ?_
   exact .ok e (by rw[show p+1 - p=1 by omega];rfl) hs
  ·have ob:∃k,(bs[p]).toNat - 247=k:=⟨_,rfl⟩
   obtain⟨k,hk⟩:=ob
   have hk1:1≤k∧k≤8:=by omega
   by_cases hk2:bs.length<p+1+k
   ·have e:r=.error 11:=by rw[←hr];unfold numberP;rw[if_neg hp,hg,if_neg hc,hk,if_pos hk2]
    refine calls (n:=87) Tryz.func143 rfl rfl rfl ?_
    refine sr<|wA<|wA<|wZ<|cq<|cq<|CW.quiet mixedP (by kernel_rfl) hs ?_
    refine qm<|qn rfl<|qF 1 u186 rfl ty3 rfl<|qL ty3 rfl (fun w hs=>hs.c0 rfl)<|qm<|qn rfl<|qF 0 u186 rfl ty76 rfl<|qL ty76 rfl (fun w hs=>hs.c0 rfl)<|qV (fun w hs=>run_lenSl u76 rfl)<|qV (fun w hs=>run_bF (run_geq rfl rfl) (by omega))<|QL.nil (fun w hs=>?_)
    refine cF rfl<|ck<|cq<|CW.quiet mixedP (by kernel_rfl) hs ?_
    refine qm<|qn rfl<|qF 0 u186 rfl ty76 rfl<|qL ty76 rfl (fun w hs=>hs.c0 rfl)<|qm<|qn rfl<|qF 1 u186 rfl ty3 rfl<|qL ty3 rfl (fun w hs=>hs.c0 rfl)<|qI u76 ty5 rfl rfl<|qL ty5 rfl (fun w hs=>hcell hp' hs)<|qV (fun w hs=>run_convI64 u5 u3 rfl (by omega))<|qA<|QL.nil (fun w hs=>?_)
    refine cq<|sr<|wm<|iF<|wZ<|cF rfl<|ck<|sr<|wm<|wS (k:Int)<|wA<|wZ<|cq<|cq ?_
    refine CW.quiet mixedP (by kernel_rfl) hs ?_
    refine qm<|qn rfl<|qF 0 u186 rfl ty76 rfl<|qL ty76 rfl (fun w hs=>hs.c0 rfl)<|qV (fun w hs=>run_lenSl u76 rfl)<|qm<|qn rfl<|qF 1 u186 rfl ty3 rfl<|qL ty3 rfl (fun w hs=>hs.c0 rfl)<|qV (fun w hs=>run_sub rfl rfl rfl (by omega))<|qV (fun w hs=>run_sub rfl rfl rfl (by omega))<|qm<|qV (fun w hs=>run_bT (run_lss rfl rfl) (by omega))<|QL.nil (fun w hs=>?_)
    refine cT rfl<|sr<|wm<|wn rfl<|wF 2 u186 rfl ty3 rfl<|ws1 ty3 rfl rfl (rfl) (hs) (fun w hs=>?_)
    refine wZ<|sr<|wA<|wA<|wZ<|CW.ret ?_
    refine fin_ret2 rfl ?_
    exact .err e rfl hs
   ·have ob:∃z,(bs.drop (p+1)).take k=z:=⟨_,rfl⟩
    obtain⟨z,hz⟩:=ob
    have hzl:z.length=k:=by rw[←hz];simp;omega
    have hg1:bs.getD (p+1) 0=z[0]:=by
     rw[getD_of (by omega)]
     simp[←hz]
    have hnum:r=if z[0]=0∨beVal z<248 then .error 12 else .ok (beVal z,p+1+k):=by
     rw[←hr]
     unfold numberP
     rw[if_neg hp,hg,if_neg hc,hk,if_neg hk2,hz,hg1]
    have hff:=form_first (r:=z) (by omega) (by omega)
    refine calls (n:=87) Tryz.func143 rfl rfl rfl ?_
    refine sr<|wA<|wA<|wZ<|cq<|cq<|CW.quiet mixedP (by kernel_rfl) hs ?_
    refine qm<|qn rfl<|qF 1 u186 rfl ty3 rfl<|qL ty3 rfl (fun w hs=>hs.c0 rfl)<|qm<|qn rfl<|qF 0 u186 rfl ty76 rfl<|qL ty76 rfl (fun w hs=>hs.c0 rfl)<|qV (fun w hs=>run_lenSl u76 rfl)<|qV (fun w hs=>run_bF (run_geq rfl rfl) (by omega))<|QL.nil (fun w hs=>?_)
    refine cF rfl<|ck<|cq<|CW.quiet mixedP (by kernel_rfl) hs ?_
    refine qm<|qn rfl<|qF 0 u186 rfl ty76 rfl<|qL ty76 rfl (fun w hs=>hs.c0 rfl)<|qm<|qn rfl<|qF 1 u186 rfl ty3 rfl<|qL ty3 rfl (fun w hs=>hs.c0 rfl)<|qI u76 ty5 rfl rfl<|qL ty5 rfl (fun w hs=>hcell hp' hs)<|qV (fun w hs=>run_convI64 u5 u3 rfl (by omega))<|qA<|QL.nil (fun w hs=>?_)
    refine cq<|sr<|wm<|iF<|wZ<|cF rfl<|ck<|sr<|wm<|wS (k:Int)<|wA<|wZ<|cq<|cq ?_
    refine CW.quiet mixedP (by kernel_rfl) hs ?_
    refine qm<|qn rfl<|qF 0 u186 rfl ty76 rfl<|qL ty76 rfl (fun w hs=>hs.c0 rfl)<|qV (fun w hs=>run_lenSl u76 rfl)<|qm<|qn rfl<|qF 1 u186 rfl ty3 rfl<|qL ty3 rfl (fun w hs=>hs.c0 rfl)<|qV (fun w hs=>run_sub rfl rfl rfl (by omega))<|qV (fun w hs=>run_sub rfl rfl rfl (by omega))<|qm<|qV (fun w hs=>run_bF (run_lss rfl rfl) (by omega))<|QL.nil (fun w hs=>?_)
    refine cF rfl<|ck<|sr<|wA<|wZ<|cq<|sr<|wA<|wZ<|cB<|CW.loop (fun m f w'=>∃j,j≤k∧m=k - j∧Step [b] [RRB b (.slice (some ⟨bb,off,none⟩) bs.length c) p 0] w0 w'∧Holds f [(0,pt b),(5,.int .i64 k),(6,.int .u64 (beVal (z.take j):Nat)),(7,.int .i64 (j+1:Nat))]) (m:=k) ?_ ?_
    ·exact⟨0,by omega,by omega,hs,rfl,rfl,rfl,rfl,trivial⟩
    ·rintro m f w ⟨j,hj,rfl,hs,hf⟩
     have ob:=hf.chain
     obtain⟨g,rfl⟩:=ob
     unfold RRB at hs
     refine cq<|sr<|wm<|wm<|wV (run_leq rfl rfl)<|wZ<|CW.condP rfl (fun hlt=>?_) (fun hlt=>?_)
     ·have hlt':j<z.length:=by omega
      have hb1:=beVal_lt (z.take j)
      have hb2:256 ^ (z.take j).length≤256 ^ 7:=Nat.pow_le_pow_right (by decide) (by rw[length_take];omega)
      have h7:(256:Nat) ^ 7=72057594037927936:=by decide
      have hpj:p+(j+1)<bs.length:=by omega
      have hzj:z[j]=bs[p+(j+1)]:=by
       simp only[←hz,getElem_take,getElem_drop]
       congr 1
       omega
      have hcl2:=(bs[p+(j+1)]).toNat_lt
      refine ck<|cq<|cB<|CW.quiet mixedP (by kernel_rfl) hs ?_
      refine qm<|qV (fun w hs=>run_shl8 rfl rfl (by omega))<|qm<|qn rfl<|qF 0 u186 rfl ty76 rfl<|qL ty76 rfl (fun w hs=>hs.c0 rfl)<|qm<|qn rfl<|qF 1 u186 rfl ty3 rfl<|qL ty3 rfl (fun w hs=>hs.c0 rfl)<|qm<|qV (fun w hs=>run_add (c:=((p+(j+1):Nat):Int)) rfl rfl (by omega) (by omega))<|qI u76 ty5 rfl rfl<|qL ty5 rfl (fun w hs=>hcell hpj hs) ?_
      refine qV (fun w hs=>run_convU64 u5 u240 rfl (by omega))<|qV (fun w hs=>run_orB rfl rfl (by omega) (by omega))<|qA<|QL.nil (fun w hs=>?_)
      refine cr<|wm<|wP ((j+1+1:Nat):Int)<|wA<|wZ<|(show _∧_ from⟨rfl,_,?_,j+1,by omega,rfl,hs,rfl,rfl,?_,rfl,trivial⟩)
      ·omega
      ·rw[take_succ_eq_append_getElem hlt',beVal_append,hzj]
       rfl
     ·obtain rfl:j=k:=by omega
      have htk:z.take j=z:=take_of_length_le (by omega)
      rw[htk]
      have hbl:=beVal_lt z
      have hbl2:256 ^ z.length≤256 ^ 8:=Nat.pow_le_pow_right (by decide) (by omega)
      have h8:(256:Nat) ^ 8=18446744073709551616:=by decide
      have hfl:=formB_len (beVal z)
      by_cases hbad:z[0]=0∨beVal z<248
      ·have e:r=.error 12:=by rw[hnum,if_pos hbad]
       have hnl:(formB (beVal z)).length≠1+j:=fun e=>hff.1 (by omega) hbad
       refine CW.exit<|cq<|sr<|wm<|wE rfl (run_call en179 rfl rfl) (formR_spec (beVal z) _ (by omega)) ?_
       rintro e w ⟨v',Lv',rfl,hv',hq⟩
       refine⟨_,rfl,?_⟩
       have ob:=hv'.form
       obtain⟨fa,fc,rfl⟩:=ob
       replace hs:=(hs.call0 hq).append_comm
       refine wL u76 rfl<|wm<|wP ((1+j:Nat):Int)<|nT<|wZ<|cT rfl<|sr<|wm<|wn rfl<|wF 2 u186 rfl ty3 rfl<|ws1 ty3 rfl rfl (rfl) (hs) (fun w hs=>?_)
       refine wZ<|sr<|wA<|wA<|wZ<|CW.ret ?_
       refine fin_ret2 rfl ?_
       exact .err e rfl (Step.dropR (L1:=[_]) hs)
      ·have e:r=.ok (beVal z,p+1+j):=by rw[hnum,if_neg hbad]
       have hnl:(formB (beVal z)).length=1+j:=(hff.2 hbad).trans (by omega)
       refine CW.exit<|cq<|sr<|wm<|wE rfl (run_call en179 rfl rfl) (formR_spec (beVal z) _ (by omega)) ?_
       rintro e w ⟨v',Lv',rfl,hv',hq⟩
       refine⟨_,rfl,?_⟩
       have ob:=hv'.form
       obtain⟨fa,fc,rfl⟩:=ob
       replace hs:=(hs.call0 hq).append_comm
       refine wL u76 rfl<|wm<|wP ((1+j:Nat):Int)<|nF<|wZ<|cF rfl<|ck<|sr<|wm<|wm<|wP ((1+j:Nat):Int)<|wA<|wA<|wZ ?_
       refine CW.ret ?_
       refine fin_ret2 rfl ?_
       exact .ok e (by rw[show p+1+j - p=1+j by omega];rfl) (Step.dropR (L1:=[_]) hs)
theorem numR_at{b p:Nat}{bs:U8}{bv:Value}{r:Except Int (Nat×Nat)} (hr:numP bs p=r) (w0:World) (h:RrOk w0 b bs bv p) (hpl:p≤bs.length):CP 142 #[pt b] w0 (RrN b bv p w0 (fun u=>.int .i64 u) r):=by
 cases hn:numberP bs p with
 | error er=>
  have e:r=.error er:=by rw[←hr];unfold numP;rw[hn]
  refine calls (n:=24) Tryz.func142 rfl rfl rfl ?_
  refine sr<|wA<|wA<|wZ<|sr<|wm<|wE rfl (run_call en143 rfl rfl) (numberR_at hn _ h hpl) ?_
  rintro e w ⟨rfl,hs⟩
  refine⟨_,rfl,?_⟩
  refine wm<|wx rfl rfl<|wx rfl rfl<|wA<|wA<|wZ<|cq<|sr<|wm<|xF<|wm<|wz<|wz<|wz<|pF<|wZ ?_
  refine cF rfl<|ck<|sr<|wm<|wV (run_convI64 u240 u3 rfl (by omega))<|wm<|wA<|wA<|wZ<|CW.ret ?_
  refine fin_ret2 rfl ?_
  exact .err e rfl hs
 | ok uq=>
  obtain⟨u,q⟩:=uq
  have hb:=numberP_ok hn
  by_cases hbig:9223372036854775808≤u
  ·have e:r=.error 12:=by rw[←hr];unfold numP;rw[hn];exact if_pos hbig
   refine calls (n:=24) Tryz.func142 rfl rfl rfl ?_
   refine sr<|wA<|wA<|wZ<|sr<|wm<|wE rfl (run_call en143 rfl rfl) (numberR_at hn _ h hpl) ?_
   rintro e w ⟨rfl,hs⟩
   refine⟨_,rfl,?_⟩
   unfold RRB at hs
   refine wm<|wx rfl rfl<|wx rfl rfl<|wA<|wA<|wZ<|cq<|sr<|wm<|xT<|wm<|wy<|wm<|wy<|wV (run_shr63 rfl rfl)<|wy<|nT<|pT<|wZ ?_
   refine cT rfl<|sr<|wm<|wn rfl<|wF 2 u186 rfl ty3 rfl<|ws1 ty3 rfl rfl (rfl) hs (fun w hs=>?_)
   refine wZ<|sr<|wA<|wA<|wZ<|CW.ret ?_
   refine fin_ret2 rfl ?_
   exact .err e rfl hs
  ·have e:r=.ok (u,q):=by rw[←hr];unfold numP;rw[hn];exact if_neg hbig
   refine calls (n:=24) Tryz.func142 rfl rfl rfl ?_
   refine sr<|wA<|wA<|wZ<|sr<|wm<|wE rfl (run_call en143 rfl rfl) (numberR_at hn _ h hpl) ?_
   rintro e w ⟨rfl,hs⟩
   refine⟨_,rfl,?_⟩
   refine wm<|wx rfl rfl<|wx rfl rfl<|wA<|wA<|wZ<|cq<|sr<|wm<|xT<|wm<|wy<|wm<|wy<|wV (run_shr63 rfl rfl)<|wy<|nF<|pT<|wZ ?_
   refine cF rfl<|ck<|sr<|wm<|wV (run_convI64 u240 u3 rfl (by omega))<|wm<|wA<|wA<|wZ<|CW.ret ?_
   refine fin_ret2 rfl ?_
   exact .ok e rfl hs
theorem RrOk.next {w w':World}{b p q:Nat}{bs:U8}{bv:Value}{L:OL} (h:RrOk w b bs bv p) (hs:Step [b] (RRB b bv q 0::L) w w'):RrOk w' b bs bv q:=
 ⟨Step.own (L1:=[_]) hs,h.sl.stepK hs (h.out.imp (fun e=>by rw[e];rfl) id),h.out,h.room,h.len⟩
def RrV (b:Nat) (bv:Value) (p:Nat) (w0:World):Except Int (Nat×Nat)→Ending→World→Prop
 | .ok (u,q),e,w'=>e=.returned (.int .i64 u)∧Step [b] [RRB b bv q 0] w0 w'
 | .error er,e,w'=>e=.returned (.int .i64 0)∧Step [b] [RRB b bv p er] w0 w'
theorem RrV.ok{b p:Nat}{bv:Value}{w0 w':World}{e:Ending}{r:Except Int (Nat×Nat)}{u q:Nat} (hr:r=.ok (u,q)) (he:e=.returned (.int .i64 u)) (hs:Step [b] [RRB b bv q 0] w0 w'):RrV b bv p w0 r e w':=by subst hr;exact⟨he,hs⟩
theorem RrV.err{b p:Nat}{bv:Value}{w0 w':World}{e:Ending}{r:Except Int (Nat×Nat)}{er:Int} (hr:r=.error er) (he:e=.returned (.int .i64 0)) (hs:Step [b] [RRB b bv p er] w0 w'):RrV b bv p w0 r e w':=by subst hr;exact⟨he,hs⟩
theorem mostR_at{b p m:Nat}{bs:U8}{bv:Value}{r:Except Int (Nat×Nat)} (hr:mostP m bs p=r) (w0:World) (h:RrOk w0 b bs bv p) (hpl:p≤bs.length):CP 146 #[pt b,.int .i64 m] w0 (RrV b bv p w0 r):=by
 have hlen:=h.len
 cases hn:numP bs p with
 | error er=>
  have e:r=.error er:=by rw[←hr];unfold mostP;rw[hn]
  refine calls (n:=32) Tryz.func146 rfl rfl rfl ?_
  refine sr<|wA<|wZ<|sr<|wm<|wE rfl (run_call en142 rfl rfl) (numR_at hn _ h hpl) ?_
  rintro e w ⟨rfl,hs⟩
  refine⟨_,rfl,?_⟩
  unfold RRB at hs
  refine wm<|wx rfl rfl<|wx rfl rfl<|wA<|wA<|wZ<|cq<|sr<|wm<|xF<|wm<|wz<|wz<|wz<|pF<|wZ ?_
  refine cF rfl<|ck<|sr<|wm<|wm<|wn rfl<|wF 1 u186 rfl ty3 rfl<|wl ty3 rfl (hs.c0 rfl)<|wm<|wP (p:Int)<|wn rfl<|wF 1 u186 rfl ty3 rfl<|ws1 ty3 rfl rfl (rfl) hs (fun w hs=>?_)
  refine wZ<|sr<|wm<|wA<|wZ<|CW.ret ?_
  refine fin_ret1 rfl ?_
  exact .err e rfl hs
 | ok uq=>
  obtain⟨u,q⟩:=uq
  have hb:=numP_ok hn
  by_cases hbig:m<u
  ·have e:r=.error 2:=by rw[←hr];unfold mostP;rw[hn];exact if_pos hbig
   refine calls (n:=32) Tryz.func146 rfl rfl rfl ?_
   refine sr<|wA<|wZ<|sr<|wm<|wE rfl (run_call en142 rfl rfl) (numR_at hn _ h hpl) ?_
   rintro e w ⟨rfl,hs⟩
   refine⟨_,rfl,?_⟩
   unfold RRB at hs
   refine wm<|wx rfl rfl<|wx rfl rfl<|wA<|wA<|wZ<|cq<|sr<|wm<|xT<|wm<|wy<|wm<|wy<|wm<|wy<|xT<|pT<|wZ ?_
   refine cT rfl<|sr<|wm<|wn rfl<|wF 2 u186 rfl ty3 rfl<|ws1 ty3 rfl rfl (rfl) hs (fun w hs=>?_)
   refine wZ<|sr<|wA<|wZ<|CW.ret ?_
   refine fin_ret1 rfl ?_
   exact .err e rfl hs
  ·have e:r=.ok (u,q):=by rw[←hr];unfold mostP;rw[hn];exact if_neg hbig
   refine calls (n:=32) Tryz.func146 rfl rfl rfl ?_
   refine sr<|wA<|wZ<|sr<|wm<|wE rfl (run_call en142 rfl rfl) (numR_at hn _ h hpl) ?_
   rintro e w ⟨rfl,hs⟩
   refine⟨_,rfl,?_⟩
   unfold RRB at hs
   refine wm<|wx rfl rfl<|wx rfl rfl<|wA<|wA<|wZ<|cq<|sr<|wm<|xT<|wm<|wy<|wm<|wy<|wm<|wy<|xF<|pT<|wZ ?_
   refine cF rfl<|ck<|sr<|wm<|wm<|wn rfl<|wF 1 u186 rfl ty3 rfl<|wl ty3 rfl (hs.c0 rfl)<|wm<|wP (q:Int)<|wn rfl<|wF 1 u186 rfl ty3 rfl<|ws1 ty3 rfl rfl (rfl) hs (fun w hs=>?_)
   refine wZ<|sr<|wm<|wA<|wZ<|CW.ret ?_
   refine fin_ret1 rfl ?_
   exact .ok e rfl hs
theorem RrOk.form{w:World}{b p:Nat}{bs:U8}{bv:Value} (h:RrOk w b bs bv p):∃a c,bv=.slice a bs.length c:=by
 have ob:=h.sl
 obtain⟨_,⟨_,c,rfl,h0⟩ | ⟨bb,off,c,rfl,_⟩⟩:=ob
 ·exact⟨_,_,by rw[h0]⟩
 ·exact⟨_,_,rfl⟩
theorem leftR_at{b p:Nat}{bs:U8}{bv:Value} (w0:World) (h:RrOk w0 b bs bv p) (hpl:p≤bs.length):CP 100 #[pt b] w0 fun e w'=>e=.returned (.int .i64 (bs.length - p:Nat))∧Step [b] [RRB b bv p 0] w0 w':=by
 have hs:=h.own
 have hlen:=h.len
 have ob:=h.form
 obtain⟨a,c,rfl⟩:=ob
 unfold RRB at hs
 refine calls (n:=13) Tryz.func100 rfl rfl rfl ?_
 refine sr<|wA<|wZ<|cq<|CW.quiet mixedP (by kernel_rfl) hs ?_
 refine qm<|qn rfl<|qF 0 u186 rfl ty76 rfl<|qL ty76 rfl (fun w hs=>hs.c0 rfl)<|qV (fun w hs=>run_lenSl u76 rfl)<|qm<|qn rfl<|qF 1 u186 rfl ty3 rfl<|qL ty3 rfl (fun w hs=>hs.c0 rfl)<|qV (fun w hs=>run_sub (c:=((bs.length - p:Nat):Int)) rfl rfl (by omega) (by omega))<|qA<|QL.nil (fun w hs=>?_)
 refine CW.ret ?_
 refine fin_ret1 rfl ?_
 exact⟨rfl,hs⟩
def RrT (b:Nat) (bv:Value) (bs:(List UInt8)) (p k n:Nat) (w0:World) (e:Ending) (w':World):Prop:=
 if bs.length<p+k+n then e=.returned (.slice none 0 0)∧Step [b] [RRB b bv p 11] w0 w'
 else ∃v Lv,e=.returned v∧OwnSl 5 1 v n (u8s ((bs.drop (p+k)).take n)) Lv∧Step [b] (RRB b bv (p+k+n) 0::Lv) w0 w'
theorem takeR_at{b p k n:Nat}{bs:U8}{bv:Value} (w0:World) (h:RrOk w0 b bs bv p) (hk:p+k≤bs.length) (hn:n≤9223372036854775807) (hne:0<bs.length):CP 144 #[pt b,.int .i64 k,.int .i64 n] w0 (RrT b bv bs p k n w0):=by
 have hs:=h.own
 have hlen:=h.len
 unfold RRB at hs
 by_cases hbig:bs.length<p+k+n
 ·have ob:=h.form
  obtain⟨a,c,rfl⟩:=ob
  refine calls (n:=58) Tryz.func144 rfl rfl rfl ?_
  refine sr<|wA<|wZ<|cq<|cq<|CW.quiet mixedP (by kernel_rfl) hs ?_
  refine qm<|qn rfl<|qF 0 u186 rfl ty76 rfl<|qL ty76 rfl (fun w hs=>hs.c0 rfl)<|qV (fun w hs=>run_lenSl u76 rfl)<|qm<|qn rfl<|qF 1 u186 rfl ty3 rfl<|qL ty3 rfl (fun w hs=>hs.c0 rfl)<|qV (fun w hs=>run_sub (c:=((bs.length - p:Nat):Int)) rfl rfl (by omega) (by omega))<|qm<|qV (fun w hs=>run_sub (c:=((bs.length - p - k:Nat):Int)) rfl rfl (by omega) (by omega))<|qm<|qV (fun w hs=>run_bT (run_lss rfl rfl) (by omega)) ?_
  refine QL.nil (fun w hs=>?_)
  refine cT rfl<|sr<|wm<|wn rfl<|wF 2 u186 rfl ty3 rfl<|ws1 ty3 rfl rfl (rfl) hs (fun w hs=>?_)
  refine wZ<|sr<|wA<|wZ<|CW.ret ?_
  refine fin_ret1 rfl ?_
  exact(if_pos hbig).mpr ⟨rfl,hs⟩
 ·have hfin:∀{v:Value}{Lv:OL}{w:World},OwnSl 5 1 v n (u8s ((bs.drop (p+k)).take n)) Lv→Step [b] (RRB b bv (p+k+n) 0::Lv) w0 w→RrT b bv bs p k n w0 (.returned v) w:=fun h1 h2=>(if_neg hbig).mpr ⟨_,_,rfl,h1,h2⟩
  have hroom:=h.room
  have ob:=id h.sl
  obtain⟨_,⟨_,c,rfl,h0⟩ | ⟨bb,off,c,rfl,hat⟩⟩:=ob
  ·omega
  have hc:bs.length≤c:=hroom
  have hbb:bb∉[b]:=h.out.resolve_left (fun e=>by rw[e] at hne;simp at hne)
  have hcut:cutSl 1 bb off (p+k) (p+k+n) c=.slice (some ⟨bb,if c=p+k then off else off+(p+k)*1,none⟩) n (c - (p+k)):=by
   rw[cutSl,show p+k+n - (p+k)=n by omega]
  have hsl:∀{w:World}{L:OL},Step [b] L w0 w→Sl w 1 (.slice (some ⟨bb,if c=p+k then off else off+(p+k)*1,none⟩) n (c - (p+k))) n (u8s ((bs.drop (p+k)).take n)):=fun hs=>by
   refine .mk (by simp[u8s];omega) ?_
   have hat':=hat.step hs hbb
   split
   ·rename_i hm
    obtain rfl:n=0:=by omega
    exact At.nil
   ·have:=(hat'.drop (p+k)).take n
    rw[Nat.mul_one]
    simpa[u8s,map_drop,map_take] using this
  refine calls (n:=58) Tryz.func144 rfl rfl rfl ?_
  refine sr<|wA<|wZ<|cq<|cq<|CW.quiet mixedP (by kernel_rfl) hs ?_
  refine qm<|qn rfl<|qF 0 u186 rfl ty76 rfl<|qL ty76 rfl (fun w hs=>hs.c0 rfl)<|qV (fun w hs=>run_lenSl u76 rfl)<|qm<|qn rfl<|qF 1 u186 rfl ty3 rfl<|qL ty3 rfl (fun w hs=>hs.c0 rfl)<|qV (fun w hs=>run_sub (c:=((bs.length - p:Nat):Int)) rfl rfl (by omega) (by omega))<|qm<|qV (fun w hs=>run_sub (c:=((bs.length - p - k:Nat):Int)) rfl rfl (by omega) (by omega))<|qm<|qV (fun w hs=>run_bF (run_lss rfl rfl) (by omega)) ?_
  refine QL.nil (fun w hs=>?_)
  refine cF rfl<|ck<|sr<|wA<|wZ<|cq<|CW.any (A:=fun w=>Step [b] [RRB b (.slice (some ⟨bb,off,none⟩) bs.length c) p 0] w0 w) (C:=fun w=>Step [b] [RRB b (.slice (some ⟨bb,off,none⟩) bs.length c) p 0] w0 w) 1000000 22 mixedP rfl ?_
  replace hs:=hs.drew
  refine aM 0 rfl<|aM 1 rfl<|aN 2 rfl rfl<|aF 3 rfl 0 u186 rfl ty76 rfl<|aL 4 rfl ty76 rfl (fun w hs=>hs.c0 rfl)<|aM 5 rfl<|aN 6 rfl rfl<|aF 7 rfl 1 u186 rfl ty3 rfl<|aL 8 rfl ty3 rfl (fun w hs=>hs.c0 rfl)<|aM 9 rfl<|aV 10 rfl (fun w hs=>run_add (c:=((p+k:Nat):Int)) rfl rfl (by omega) (by omega))<|aM 11 rfl<|aN 12 rfl rfl<|aF 13 rfl 1 u186 rfl ty3 rfl ?_
  refine aL 14 rfl ty3 rfl (fun w hs=>hs.c0 rfl)<|aM 15 rfl<|aV 16 rfl (fun w hs=>run_add (c:=((p+k:Nat):Int)) rfl rfl (by omega) (by omega))<|aM 17 rfl<|aV 18 rfl (fun w hs=>run_add (c:=((p+k+n:Nat):Int)) rfl rfl (by omega) (by omega))<|aV 19 rfl (fun w hs=>run_sliceSlE (lo:=p+k) (hi:=p+k+n) (m:=c) u76 ty5 rfl rfl rfl rfl (by simp) (by omega) (by omega) (by omega) hcut)<|AL.one 20 (by kernel_rfl) rfl (by exact hs) (by exact hs) ?_
  refine WL.append u76 u76 ty5 rfl (by decide) rfl rfl (.nil _ _) (hs) (hsl hs) (Cells1.u8s _) (by omega) rfl (fun v45 Lv45 w hv45 hs=>?_)
  refine wZ<|⟨rfl,?_⟩
  refine aA 21 rfl<|AL.end (by kernel_rfl) (by exact Step.dropL hs) (by exact Step.dropL hs) ?_
  replace hs:=Step.append_comm hs
  refine sr<|wm<|wm<|wn rfl<|wF 1 u186 rfl ty3 rfl<|wl ty3 rfl (hs.c0 rfl)<|wm<|wP ((p+k:Nat):Int)<|wm<|wP ((p+k+n:Nat):Int)<|wn rfl<|wF 1 u186 rfl ty3 rfl<|ws1 ty3 rfl rfl (rfl) hs (fun w hs=>?_)
  refine wZ<|sr<|wm<|wA<|wZ<|CW.ret ?_
  refine fin_ret1 rfl ?_
  rw[Nat.zero_add,nil_append] at hv45
  exact hfin hv45 hs
def itemV (k n:Int) (v:Value):List Value:=[.int .i64 k,.int .i64 n,v]
theorem bld_item (k:Int) (w:World):(Instr.build 188 #[(0,.int .i64 k)]).run Tryz.prog w=.ok (.agg (itemV k 0 (.slice none 0 0)).toArray) w:=by kernel_rfl
theorem itemV_c1{k n:Int}{v:Value} (h:v.oneCell'=true):Cells1 (itemV k n v):=fun u hu=>by
 simp only[itemV,mem_cons,not_mem_nil,or_false] at hu
 rcases hu with rfl | rfl | rfl
 ·rfl
 ·rfl
 ·exact h
def RrA (b:Nat) (bv:Value) (p:Nat) (w0:World):Except Int (Nat×Nat)→Ending→World→Prop
 | .ok (u,q),e,w'=>e=.returned (.agg (itemV 1 u (.slice none 0 0)).toArray)∧Step [b] [RRB b bv q 0] w0 w'
 | .error er,e,w'=>e=.returned (.agg (itemV 1 0 (.slice none 0 0)).toArray)∧Step [b] [RRB b bv p er] w0 w'
theorem RrA.ok{b p:Nat}{bv:Value}{w0 w':World}{e:Ending}{r:Except Int (Nat×Nat)}{u q:Nat} (hr:r=.ok (u,q)) (he:e=.returned (.agg (itemV 1 u (.slice none 0 0)).toArray)) (hs:Step [b] [RRB b bv q 0] w0 w'):RrA b bv p w0 r e w':=by subst hr;exact⟨he,hs⟩
theorem RrA.err{b p:Nat}{bv:Value}{w0 w':World}{e:Ending}{r:Except Int (Nat×Nat)}{er:Int} (hr:r=.error er) (he:e=.returned (.agg (itemV 1 0 (.slice none 0 0)).toArray)) (hs:Step [b] [RRB b bv p er] w0 w'):RrA b bv p w0 r e w':=by subst hr;exact⟨he,hs⟩
theorem readNum_at{b p:Nat}{bs:U8}{bv:Value}{r:Except Int (Nat×Nat)} (hr:numP bs p=r) (w0:World) (h:RrOk w0 b bs bv p) (hpl:p≤bs.length):CP 99 #[pt b,.int .i64 1,.int .i64 0] w0 (RrA b bv p w0 r):=by
 have hlen:=h.len
 have hs:=h.own
 unfold RRB at hs
 refine calls (n:=115) Tryz.func99 rfl rfl rfl ?_
 refine sr<|WL.alloc ty188 rfl hs (fun b6 w hs=>?_)
 refine wZ<|sr<|wm<|wV (run_build rfl (bld_item _ _))<|WL.alloc ty188 rfl hs (fun b7 w hs=>?_)
 refine WL.storeAll ty188 rfl rfl ((rfl)) (itemV_c1 rfl) hs (by rfl) (fun w hs=>?_)
 refine wZ<|cq<|sr<|wm<|wZ<|cB<|sr<|wV (run_bT (run_eql rfl rfl) (by rfl))<|wA<|wZ ?_
 replace hs:=Step.front [_,_] hs
 have hnx:RrOk w b bs bv p:=h.next hs
 cases hn:numP bs p with
 | error er=>
  have e:r=.error er:=by rw[←hr];exact hn
  refine cT rfl<|sr<|wm<|wE rfl (run_call en142 rfl rfl) (numR_at hn _ hnx hpl) ?_
  rintro e w ⟨rfl,hq⟩
  refine⟨_,rfl,?_⟩
  replace hs:=Step.call (L1:=[_]) hs hq
  unfold RRB at hs
  refine wm<|wx rfl rfl<|wx rfl rfl<|wA<|wA<|wZ<|sr<|wm<|wF 1 u188 rfl ty3 rfl<|WL.store1_1 ty3 rfl rfl (rfl) hs (by first | (simp;done) | omega | (simp only[length_append,length_replicate,length_cons,length_nil,length_set];omega) | (simp[Ent.cells,u8s];done) | exact Nat.le_of_ble_eq_true rfl) (fun w hs=>?_)
  refine wZ<|cr<|wm<|wm<|wn rfl<|wF 1 u186 rfl ty3 rfl<|wl ty3 rfl (hs.c0 rfl)<|wm<|wP (p:Int)<|wn rfl<|wF 1 u186 rfl ty3 rfl<|ws1 ty3 rfl rfl (rfl) hs (fun w hs=>?_)
  refine wZ<|sr<|wR ty188 rfl (by rfl) hs.a1<|WL.storeAll_2 ty188 rfl rfl (by rfl) (by exact Cells1.of_all rfl) hs (by rfl) (fun w hs=>?_)
  refine wZ<|CW.ret ?_
  refine fin_cell1 rfl rfl (run_loadVarN ty188 rfl hs.a2) ?_
  exact .err e rfl (Step.dropR (L1:=[_]) hs)
 | ok uq=>
  obtain⟨u,q⟩:=uq
  have hb:=numP_ok hn
  have e:r=.ok (u,q):=by rw[←hr];exact hn
  refine cT rfl<|sr<|wm<|wE rfl (run_call en142 rfl rfl) (numR_at hn _ hnx hpl) ?_
  rintro e w ⟨rfl,hq⟩
  refine⟨_,rfl,?_⟩
  replace hs:=Step.call (L1:=[_]) hs hq
  unfold RRB at hs
  refine wm<|wx rfl rfl<|wx rfl rfl<|wA<|wA<|wZ<|sr<|wm<|wF 1 u188 rfl ty3 rfl<|WL.store1_1 ty3 rfl rfl (rfl) hs (by first | (simp;done) | omega | (simp only[length_append,length_replicate,length_cons,length_nil,length_set];omega) | (simp[Ent.cells,u8s];done) | exact Nat.le_of_ble_eq_true rfl) (fun w hs=>?_)
  refine wZ<|cr<|wm<|wm<|wn rfl<|wF 1 u186 rfl ty3 rfl<|wl ty3 rfl (hs.c0 rfl)<|wm<|wP (q:Int)<|wn rfl<|wF 1 u186 rfl ty3 rfl<|ws1 ty3 rfl rfl (rfl) hs (fun w hs=>?_)
  refine wZ<|sr<|wR ty188 rfl (by rfl) hs.a1<|WL.storeAll_2 ty188 rfl rfl (by rfl) (by exact Cells1.of_all rfl) hs (by rfl) (fun w hs=>?_)
  refine wZ<|CW.ret ?_
  refine fin_cell1 rfl rfl (run_loadVarN ty188 rfl hs.a2) ?_
  exact .ok e rfl (Step.dropR (L1:=[_]) hs)
def RrB (b:Nat) (bv:Value) (p:Nat) (kd:Int) (w0:World):Except Int ((List UInt8)×Nat)→Ending→World→Prop
 | .ok (s,q),e,w'=>∃v Lv,e=.returned (.agg (itemV kd 0 v).toArray)∧OwnSl 5 1 v s.length (u8s s) Lv∧Step [b] (RRB b bv q 0::Lv) w0 w'
 | .error er,e,w'=>e=.returned (.agg (itemV kd 0 (.slice none 0 0)).toArray)∧Step [b] [RRB b bv p er] w0 w'
theorem RrB.ok{b p:Nat}{bv v:Value}{w0 w':World}{kd:Int}{e:Ending}{r:Except Int (List UInt8×Nat)}{s:U8}{q:Nat}{Lv:OL} (hr:r=.ok (s,q)) (he:e=.returned (.agg (itemV kd 0 v).toArray)) (hv:OwnSl 5 1 v s.length (u8s s) Lv) (hs:Step [b] (RRB b bv q 0::Lv) w0 w'):RrB b bv p kd w0 r e w':=by subst hr;exact⟨v,Lv,he,hv,hs⟩
theorem RrB.err{b p:Nat}{bv:Value}{w0 w':World}{kd:Int}{e:Ending}{r:Except Int (List UInt8×Nat)}{er:Int} (hr:r=.error er) (he:e=.returned (.agg (itemV kd 0 (.slice none 0 0)).toArray)) (hs:Step [b] [RRB b bv p er] w0 w'):RrB b bv p kd w0 r e w':=by subst hr;exact⟨he,hs⟩
theorem readBytes_at{b p:Nat}{bs:U8}{bv:Value}{kd:Int}{r:Except Int (List UInt8×Nat)} (hr:bytesP bs p=r) (hkd:kd=5∨kd=4) (w0:World) (h:RrOk w0 b bs bv p) (hpl:p≤bs.length):CP 99 #[pt b,.int .i64 kd,.int .i64 0] w0 (RrB b bv p kd w0 r):=by
 have hlen:=h.len
 have hs:=h.own
 unfold RRB at hs
 rcases hkd with rfl | rfl
 ·refine calls (n:=115) Tryz.func99 rfl rfl rfl ?_
  refine sr<|WL.alloc ty188 rfl hs (fun b6 w hs=>?_)
  refine wZ<|sr<|wm<|wV (run_build rfl (bld_item _ _))<|WL.alloc ty188 rfl hs (fun b7 w hs=>?_)
  refine WL.storeAll ty188 rfl rfl ((rfl)) (itemV_c1 rfl) hs (by rfl) (fun w hs=>?_)
  refine wZ<|cq<|sr<|wm<|wZ<|cB<|sr<|eF<|wA<|wZ<|cF rfl<|cq ?_
  refine cr<|eF<|wA<|wZ<|cF rfl<|sr<|eF<|wA<|wZ<|cF rfl<|cq<|sr<|eF<|wA<|wZ<|cF rfl<|cr<|eT<|wA<|wZ ?_
  replace hs:=Step.front [_,_] hs
  have hnx:RrOk w b bs bv p:=h.next hs
  cases hn:numP bs p with
  | error er=>
   have e:r=.error er:=by rw[←hr];unfold bytesP;rw[hn]
   refine cT rfl<|sr<|wm<|wE rfl (run_call en142 rfl rfl) (numR_at hn _ hnx hpl) ?_
   rintro e w ⟨rfl,hq⟩
   refine⟨_,rfl,?_⟩
   replace hs:=Step.call (L1:=[_]) hs hq
   unfold RRB at hs
   refine wm<|wx rfl rfl<|wx rfl rfl<|wA<|wA<|wZ<|sr<|wm<|xF<|wZ<|cF rfl<|ck<|cq ?_
   refine cr<|wR ty188 rfl (by rfl) hs.a1<|WL.storeAll_2 ty188 rfl rfl ((rfl)) (itemV_c1 (by rfl)) hs (by rfl) (fun w hs=>?_)
   refine wZ<|CW.ret ?_
   refine fin_cell1 rfl rfl (run_loadVarN ty188 rfl hs.a2) ?_
   exact .err e rfl (Step.dropR (L1:=[_]) hs)
  | ok uq=>
   obtain⟨u,q⟩:=uq
   have hb:=numP_ok hn
   have hpq:p+(q - p)=q:=by omega
   by_cases hbig:bs.length<q+u
   ·have e:r=.error 11:=by rw[←hr];unfold bytesP;rw[hn];exact if_pos hbig
    refine cT rfl<|sr<|wm<|wE rfl (run_call en142 rfl rfl) (numR_at hn _ hnx hpl) ?_
    rintro e w ⟨rfl,hq⟩
    refine⟨_,rfl,?_⟩
    replace hs:=Step.call (L1:=[_]) hs hq
    refine wm<|wx rfl rfl<|wx rfl rfl<|wA<|wA<|wZ ?_
    have hnx2:RrOk w b bs bv p:=h.next hs
    refine sr<|wm<|xT<|wZ ?_
    have ht:∀e w',RrT b bv bs p (q - p) u w e w'→e=.returned (.slice none 0 0)∧Step [b] [RRB b bv p 11] w w':=fun e w' h=>by
     unfold RrT at h
     rw[hpq] at h
     exact(if_pos hbig).mp h
    refine cT rfl<|cr<|wm<|wm<|wm<|wE rfl (run_call en144 rfl rfl) ((takeR_at w hnx2 (k:=q - p) (n:=u) (by omega) (by omega) (by omega)).mono ht) ?_
    rintro e w ⟨rfl,hq⟩
    refine⟨_,rfl,?_⟩
    replace hs:=Step.call (L1:=[_]) hs hq
    refine wF 2 u188 rfl ty76 rfl<|WL.store1_1 ty76 rfl rfl (rfl) hs (by first | (simp;done) | omega | (simp only[length_append,length_replicate,length_cons,length_nil,length_set];omega) | (simp[Ent.cells,u8s];done) | exact Nat.le_of_ble_eq_true rfl) (fun w hs=>?_)
    refine wZ<|sr<|wR ty188 rfl (by rfl) hs.a1<|WL.storeAll_2 ty188 rfl rfl ((rfl)) (itemV_c1 (by rfl)) hs (by rfl) (fun w hs=>?_)
    refine wZ<|CW.ret ?_
    refine fin_cell1 rfl rfl (run_loadVarN ty188 rfl hs.a2) ?_
    exact .err e rfl (Step.dropR (L1:=[_]) hs)
   ·have e:r=.ok ((bs.drop q).take u,q+u):=by rw[←hr];unfold bytesP;rw[hn];exact if_neg hbig
    have hul:((bs.drop q).take u).length=u:=by simp;omega
    refine cT rfl<|sr<|wm<|wE rfl (run_call en142 rfl rfl) (numR_at hn _ hnx hpl) ?_
    rintro e w ⟨rfl,hq⟩
    refine⟨_,rfl,?_⟩
    replace hs:=Step.call (L1:=[_]) hs hq
    refine wm<|wx rfl rfl<|wx rfl rfl<|wA<|wA<|wZ ?_
    have hnx2:RrOk w b bs bv p:=h.next hs
    refine sr<|wm<|xT<|wZ ?_
    have ht:∀e w',RrT b bv bs p (q - p) u w e w'→∃v Lv,e=.returned v∧OwnSl 5 1 v u (u8s ((bs.drop q).take u)) Lv∧Step [b] (RRB b bv (q+u) 0::Lv) w w':=fun e w' h=>by
     unfold RrT at h
     rw[hpq] at h
     exact(if_neg hbig).mp h
    refine cT rfl<|cr<|wm<|wm<|wm<|wE rfl (run_call en144 rfl rfl) ((takeR_at w hnx2 (k:=q - p) (n:=u) (by omega) (by omega) (by omega)).mono ht) ?_
    rintro e w ⟨v,Lv,rfl,hv,hq⟩
    refine⟨_,rfl,?_⟩
    replace hs:=Step.append_comm (L2:=[_,_]) (Step.call (L1:=[_]) hs hq)
    refine wF 2 u188 rfl ty76 rfl<|ws1 ty76 rfl rfl (hv.one) hs (fun w hs=>?_)
    refine wZ<|sr<|wR ty188 rfl (by rfl) hs.a0<|WL.storeAll_1 ty188 rfl rfl ((rfl)) (itemV_c1 hv.one) hs (by rfl) (fun w hs=>?_)
    refine wZ<|CW.ret ?_
    refine fin_cell1 rfl rfl (run_loadVarN ty188 rfl hs.a1) ?_
    exact .ok e rfl (by rw[hul];exact hv) (Step.dropL (L1:=[_,_]) hs)
 ·refine calls (n:=115) Tryz.func99 rfl rfl rfl ?_
  refine sr<|WL.alloc ty188 rfl hs (fun b6 w hs=>?_)
  refine wZ<|sr<|wm<|wV (run_build rfl (bld_item _ _))<|WL.alloc ty188 rfl hs (fun b7 w hs=>?_)
  refine WL.storeAll ty188 rfl rfl ((rfl)) (itemV_c1 rfl) hs (by rfl) (fun w hs=>?_)
  refine wZ<|cq<|sr<|wm<|wZ<|cB<|sr<|eF<|wA<|wZ<|cF rfl<|cq ?_
  refine cr<|eF<|wA<|wZ<|cF rfl<|sr<|eF<|wA<|wZ<|cF rfl<|cq<|sr<|eT<|wA<|wZ ?_
  replace hs:=Step.front [_,_] hs
  have hnx:RrOk w b bs bv p:=h.next hs
  cases hn:numP bs p with
  | error er=>
   have e:r=.error er:=by rw[←hr];unfold bytesP;rw[hn]
   refine cT rfl<|ck<|cT rfl<|sr<|wm<|wE rfl (run_call en142 rfl rfl) (numR_at hn _ hnx hpl) ?_
   rintro e w ⟨rfl,hq⟩
   refine⟨_,rfl,?_⟩
   replace hs:=Step.call (L1:=[_]) hs hq
   unfold RRB at hs
   refine wm<|wx rfl rfl<|wx rfl rfl<|wA<|wA<|wZ<|sr<|wm<|xF<|wZ<|cF rfl<|ck<|cq ?_
   refine cr<|wR ty188 rfl (by rfl) hs.a1<|WL.storeAll_2 ty188 rfl rfl ((rfl)) (itemV_c1 (by rfl)) hs (by rfl) (fun w hs=>?_)
   refine wZ<|CW.ret ?_
   refine fin_cell1 rfl rfl (run_loadVarN ty188 rfl hs.a2) ?_
   exact .err e rfl (Step.dropR (L1:=[_]) hs)
  | ok uq=>
   obtain⟨u,q⟩:=uq
   have hb:=numP_ok hn
   have hpq:p+(q - p)=q:=by omega
   by_cases hbig:bs.length<q+u
   ·have e:r=.error 11:=by rw[←hr];unfold bytesP;rw[hn];exact if_pos hbig
    refine cT rfl<|ck<|cT rfl<|sr<|wm<|wE rfl (run_call en142 rfl rfl) (numR_at hn _ hnx hpl) ?_
    rintro e w ⟨rfl,hq⟩
    refine⟨_,rfl,?_⟩
    replace hs:=Step.call (L1:=[_]) hs hq
    refine wm<|wx rfl rfl<|wx rfl rfl<|wA<|wA<|wZ ?_
    have hnx2:RrOk w b bs bv p:=h.next hs
    refine sr<|wm<|xT<|wZ ?_
    have ht:∀e w',RrT b bv bs p (q - p) u w e w'→e=.returned (.slice none 0 0)∧Step [b] [RRB b bv p 11] w w':=fun e w' h=>by
     unfold RrT at h
     rw[hpq] at h
     exact(if_pos hbig).mp h
    refine cT rfl<|cr<|wm<|wm<|wm<|wE rfl (run_call en144 rfl rfl) ((takeR_at w hnx2 (k:=q - p) (n:=u) (by omega) (by omega) (by omega)).mono ht) ?_
    rintro e w ⟨rfl,hq⟩
    refine⟨_,rfl,?_⟩
    replace hs:=Step.call (L1:=[_]) hs hq
    refine wF 2 u188 rfl ty76 rfl<|WL.store1_1 ty76 rfl rfl (rfl) hs (by first | (simp;done) | omega | (simp only[length_append,length_replicate,length_cons,length_nil,length_set];omega) | (simp[Ent.cells,u8s];done) | exact Nat.le_of_ble_eq_true rfl) (fun w hs=>?_)
    refine wZ<|sr<|wR ty188 rfl (by rfl) hs.a1<|WL.storeAll_2 ty188 rfl rfl ((rfl)) (itemV_c1 (by rfl)) hs (by rfl) (fun w hs=>?_)
    refine wZ<|CW.ret ?_
    refine fin_cell1 rfl rfl (run_loadVarN ty188 rfl hs.a2) ?_
    exact .err e rfl (Step.dropR (L1:=[_]) hs)
   ·have e:r=.ok ((bs.drop q).take u,q+u):=by rw[←hr];unfold bytesP;rw[hn];exact if_neg hbig
    have hul:((bs.drop q).take u).length=u:=by simp;omega
    refine cT rfl<|ck<|cT rfl<|sr<|wm<|wE rfl (run_call en142 rfl rfl) (numR_at hn _ hnx hpl) ?_
    rintro e w ⟨rfl,hq⟩
    refine⟨_,rfl,?_⟩
    replace hs:=Step.call (L1:=[_]) hs hq
    refine wm<|wx rfl rfl<|wx rfl rfl<|wA<|wA<|wZ ?_
    have hnx2:RrOk w b bs bv p:=h.next hs
    refine sr<|wm<|xT<|wZ ?_
    have ht:∀e w',RrT b bv bs p (q - p) u w e w'→∃v Lv,e=.returned v∧OwnSl 5 1 v u (u8s ((bs.drop q).take u)) Lv∧Step [b] (RRB b bv (q+u) 0::Lv) w w':=fun e w' h=>by
     unfold RrT at h
     rw[hpq] at h
     exact(if_neg hbig).mp h
    refine cT rfl<|cr<|wm<|wm<|wm<|wE rfl (run_call en144 rfl rfl) ((takeR_at w hnx2 (k:=q - p) (n:=u) (by omega) (by omega) (by omega)).mono ht) ?_
    rintro e w ⟨v,Lv,rfl,hv,hq⟩
    refine⟨_,rfl,?_⟩
    replace hs:=Step.append_comm (L2:=[_,_]) (Step.call (L1:=[_]) hs hq)
    refine wF 2 u188 rfl ty76 rfl<|ws1 ty76 rfl rfl (hv.one) hs (fun w hs=>?_)
    refine wZ<|sr<|wR ty188 rfl (by rfl) hs.a0<|WL.storeAll_1 ty188 rfl rfl ((rfl)) (itemV_c1 hv.one) hs (by rfl) (fun w hs=>?_)
    refine wZ<|CW.ret ?_
    refine fin_cell1 rfl rfl (run_loadVarN ty188 rfl hs.a1) ?_
    exact .ok e rfl (by rw[hul];exact hv) (Step.dropL (L1:=[_,_]) hs)
def zE:Ent:=⟨[],0,List.replicate 32 0⟩
theorem bld_zE (w:World):(Instr.build 115 #[]).run Tryz.prog w=.ok (.agg zE.cells.toArray) w:=by kernel_rfl
theorem bld_nk (s:U8) (k:Int) (w:World):(Instr.build 115 #[(0,str s),(1,.int .i64 k)]).run Tryz.prog w=.ok (.agg (Ent.cells ⟨s,k,List.replicate 32 0⟩).toArray) w:=by kernel_rfl
def OneR (b:Nat) (bv:Value) (w0:World):Except Int (Ent×Nat)→Ending→World→Prop
 | .ok (x,q),e,w'=>e=.returned (.tuple #[.agg x.cells.toArray,.int .i64 0])∧Step [b] [RRB b bv q 0] w0 w'
 | .error er,e,w'=>∃o,e=.returned (.tuple #[.agg zE.cells.toArray,.int .i64 er])∧Step [b] [(b,o)] w0 w'
theorem OneR.ok{b:Nat}{bv:Value}{w0 w':World}{ed:Ending}{r:Except Int (Ent×Nat)}{x:Ent}{q:Nat} (hr:r=.ok (x,q)) (he:ed=.returned (.tuple #[.agg x.cells.toArray,.int .i64 0])) (hs:Step [b] [RRB b bv q 0] w0 w'):OneR b bv w0 r ed w':=by subst hr;exact⟨he,hs⟩
theorem OneR.err{b:Nat}{bv:Value}{w0 w':World}{ed:Ending}{r:Except Int (Ent×Nat)}{er:Int}{o:Obj} (hr:r=.error er) (he:ed=.returned (.tuple #[.agg zE.cells.toArray,.int .i64 er])) (hs:Step [b] [(b,o)] w0 w'):OneR b bv w0 r ed w':=by subst hr;exact⟨o,he,hs⟩
theorem bytesP_err{bs:U8}{p:Nat}{e:Int} (h:bytesP bs p=.error e):e=11∨e=12:=by
 unfold bytesP at h
 split at h
 ·rename_i h1;injection h with h;subst h;exact numP_err h1
 ·split at h
  ·injection h with h;exact .inl h.symm
  ·cases h
theorem set_dig (s:U8) (k:Int) (d:U8){i:Nat} (hi:i<d.length) (hd:d.length≤32):(Ent.cells ⟨s,k,d.take i++List.replicate (32 - i) 0⟩).set (2+i*1) (.int .u8 (d[i]).toNat)=Ent.cells ⟨s,k,d.take (i+1)++List.replicate (32 - (i+1)) 0⟩:=by
 have e2:(u8s (d.take i++List.replicate (32 - i) 0)).set i (.int .u8 (d[i]).toNat)=u8s (d.take (i+1)++List.replicate (32 - (i+1)) 0):=by
  unfold u8s
  rw[show(Value.int .u8 (d[i]).toNat)=(fun c:UInt8=>Value.int .u8 c.toNat) d[i] from rfl,←map_set]
  congr 1
  rw[set_append_right _ _ (by simp;omega),take_succ_eq_append_getElem hi,append_assoc]
  congr 1
  rw[show i - (d.take i).length=0 by simp;omega,show 32 - i=(32 - (i+1))+1 by omega,replicate_succ]
  rfl
 have e1:2+i*1=i+1+1:=by omega
 rw[e1]
 show str s::.int .i64 k::_=_
 rw[e2]
 rfl
theorem one_at{b p:Nat}{bs:U8}{bv lv:Value}{l:List Ent}{r:Except Int (Ent×Nat)} (hr:entP (lastN l) bs p=r) (w0:World) (h:RrOk w0 b bs bv p) (hpl:p≤bs.length) (hl:Es w0 lv l) (hlo:Outside lv [b]):CP 147 #[pt b,lv] w0 (OneR b bv w0 r):=by
 have hlen:=h.len
 have hs:=h.own
 unfold entP at hr
 refine calls (n:=103) Tryz.func147 rfl rfl rfl ?_
 refine sr<|WL.alloc ty115 rfl hs (fun b4 w hs=>?_)
 refine wA<|wZ ?_
 replace hs:Step [b] [RRB b bv p 0,(b4,blk 115 zE.cells)] w0 w:=hs.swap
 cases h1:numP bs p with
 | error er=>
  rw[h1] at hr
  have hne:er≠0:=by rcases numP_err h1 with h | h <;> omega
  refine sr<|wm<|wE rfl (run_call en99 rfl rfl) (readNum_at h1 _ (h.next hs) hpl) ?_
  rintro e w ⟨rfl,hq⟩
  refine⟨_,rfl,?_⟩
  replace hs:=Step.call (L1:=[_]) hs hq
  refine WL.alloc ty188 rfl hs (fun b6 w hs=>?_)
  refine WL.storeAll ty188 rfl rfl ((rfl)) (itemV_c1 rfl) hs (by rfl) (fun w hs=>?_)
  refine wZ<|cq<|sr<|wm<|wn rfl<|wF 2 u186 rfl ty3 rfl<|wl ty3 rfl (hs.c1 rfl)<|wV (run_bT (run_neq rfl rfl) (by exact hne))<|wZ ?_
  replace hs:=Step.front [_,_] hs
  refine cT rfl<|cq<|CW.any (A:=fun w=>Step [b] [(b4,blk 115 zE.cells),(b6,blk 188 (itemV 1 0 (.slice none 0 0))),RRB b bv p er] w0 w) (C:=fun w=>Step [b] [(b4,blk 115 zE.cells),(b6,blk 188 (itemV 1 0 (.slice none 0 0))),RRB b bv p er] w0 w) 1000000 7 mixedP rfl ?_
  replace hs:=hs.drew
  refine aV 0 rfl (fun w hs=>run_build rfl (bld_zE _))<|aM 1 rfl<|aN 2 rfl rfl<|aF 3 rfl 2 u186 rfl ty3 rfl<|aL 4 rfl ty3 rfl (fun w hs=>hs.c2 rfl)<|AL.one 5 (by kernel_rfl) rfl (hs) (hs) ?_
  refine WL.storeAll ty115 rfl rfl (rfl) (Ent.cells1 _) hs (by rfl) (fun w hs=>?_)
  refine wZ<|⟨rfl,?_⟩
  refine aA 6 rfl<|AL.end (by kernel_rfl) (hs) (hs) ?_
  refine CW.ret ?_
  refine fin_cellTmp rfl rfl (run_loadVarN ty115 rfl hs.a0) ?_
  exact .err hr.symm rfl (Step.dropR (L1:=[_]) (Step.dropL (L1:=[_,_]) hs))
 | ok kp=>
  obtain⟨k,p1⟩:=kp
  rw[h1] at hr
  have hb1:=numP_ok h1
  have hkb:=numP_le h1
  simp only at hr
  refine sr<|wm<|wE rfl (run_call en99 rfl rfl) (readNum_at h1 _ (h.next hs) hpl) ?_
  rintro e w ⟨rfl,hq⟩
  refine⟨_,rfl,?_⟩
  replace hs:=Step.call (L1:=[_]) hs hq
  refine WL.alloc ty188 rfl hs (fun b6 w hs=>?_)
  refine WL.storeAll ty188 rfl rfl ((rfl)) (itemV_c1 rfl) hs (by rfl) (fun w hs=>?_)
  refine wZ<|cq<|sr<|wm<|wn rfl<|wF 2 u186 rfl ty3 rfl<|wl ty3 rfl (hs.c1 rfl)<|nF<|wZ ?_
  by_cases hk:(k:Int)=2∨(k:Int)=1
  ·rw[if_pos (by omega)] at hr
   refine cF rfl<|ck<|cq<|sr<|wF 1 u188 rfl ty3 rfl<|wl ty3 rfl (hs.c0 rfl)<|wE rfl (run_call en181 rfl rfl) (kind_spec _ _) ?_
   rintro e w ⟨rfl,hq⟩
   refine⟨_,rfl,?_⟩
   rw[decide_eq_true hk]
   replace hs:=hs.callE hq
   refine wN rfl<|wZ ?_
   replace hs:Step [b] [RRB b bv p1 0,(b6,blk 188 (itemV 1 k (.slice none 0 0))),(b4,blk 115 zE.cells)] w0 w:=hs.swap
   cases h2:bytesP bs p1 with
   | error er=>
    rw[h2] at hr
    have hne:er≠0:=by rcases bytesP_err h2 with h | h <;> omega
    refine cF rfl<|ck<|sr<|wm<|wE rfl (run_call en99 rfl rfl) (readBytes_at h2 (.inl rfl) _ (h.next hs) hb1.1) ?_
    rintro e w ⟨rfl,hq⟩
    refine⟨_,rfl,?_⟩
    replace hs:=Step.call (L1:=[_]) hs hq
    refine WL.alloc ty188 rfl hs (fun b7 w hs=>?_)
    refine WL.storeAll ty188 rfl rfl ((rfl)) (itemV_c1 rfl) hs (by rfl) (fun w hs=>?_)
    refine wZ<|cq<|sr<|wm<|wn rfl<|wF 2 u186 rfl ty3 rfl<|wl ty3 rfl (hs.c1 rfl)<|wV (run_bT (run_neq rfl rfl) (by exact hne))<|wZ ?_
    replace hs:=Step.front [_,_,_] hs
    refine cT rfl<|cq<|CW.any (A:=fun w=>Step [b] [(b4,blk 115 zE.cells),(b7,blk 188 (itemV 5 0 (.slice none 0 0))),RRB b bv p1 er,(b6,blk 188 (itemV 1 k (.slice none 0 0)))] w0 w) (C:=fun w=>Step [b] [(b4,blk 115 zE.cells),(b7,blk 188 (itemV 5 0 (.slice none 0 0))),RRB b bv p1 er,(b6,blk 188 (itemV 1 k (.slice none 0 0)))] w0 w) 1000000 7 mixedP rfl ?_
    replace hs:=hs.drew
    refine aV 0 rfl (fun w hs=>run_build rfl (bld_zE _))<|aM 1 rfl<|aN 2 rfl rfl<|aF 3 rfl 2 u186 rfl ty3 rfl<|aL 4 rfl ty3 rfl (fun w hs=>hs.c2 rfl)<|AL.one 5 (by kernel_rfl) rfl (hs) (hs) ?_
    refine WL.storeAll ty115 rfl rfl (rfl) (Ent.cells1 _) hs (by rfl) (fun w hs=>?_)
    refine wZ<|⟨rfl,?_⟩
    refine aA 6 rfl<|AL.end (by kernel_rfl) (hs) (hs) ?_
    refine CW.ret ?_
    refine fin_cellTmp rfl rfl (run_loadVarN ty115 rfl hs.a0) ?_
    exact .err hr.symm rfl (Step.dropR (L1:=[_]) (Step.dropL (L1:=[_,_]) hs))
   | ok sp=>
    obtain⟨s,p2⟩:=sp
    rw[h2] at hr
    have hb2:=bytesP_ok h2
    have hsl:=bytesP_len h2
    simp only at hr
    refine cF rfl<|ck<|sr<|wm<|wE rfl (run_call en99 rfl rfl) (readBytes_at h2 (.inl rfl) _ (h.next hs) hb1.1) ?_
    rintro e w ⟨v,Lv,rfl,hv,hq⟩
    refine⟨_,rfl,?_⟩
    replace hs:=Step.call (L1:=[_]) hs hq
    refine WL.alloc ty188 rfl hs (fun b7 w hs=>?_)
    refine WL.storeAll ty188 rfl rfl ((rfl)) (itemV_c1 hv.one) hs (by rfl) (fun w hs=>?_)
    refine wZ ?_
    replace hs:Step [b] (RRB b bv p2 0::(b7,blk 188 (itemV 5 0 v))::(b6,blk 188 (itemV 1 k (.slice none 0 0)))::(b4,blk 115 zE.cells)::Lv) w0 w:=Step.swap (Step.mid [_,_] (L2:=Lv) (L3:=[_,_]) hs)
    have hvs:=fun(w:World) (L:OL) (hs:Step [b] (Lv++L) w0 w)=>hv.sl hs
    refine cq<|sr<|wm<|wn rfl<|wF 2 u186 rfl ty3 rfl<|wl ty3 rfl (hs.c0 rfl)<|nF<|wZ ?_
    have hnm:∀{b:Bool},decide (wrongE k s (lastN l)=0)=b→(isName s && Op.bytesLess (lastN l) s)=b:=fun {b} h=>by
     rw[←h]
     cases h1:isName s <;> cases h2:Op.bytesLess (lastN l) s <;> simp[wrongE,h1,h2,hk]
    have hls:∀{w:World}{L:OL},Step [b] L w0 w→Es w lv l:=fun hs=>hl.step hs hlo
    by_cases hw:wrongE k s (lastN l)=0
    ·rw[if_pos hw] at hr
     refine cF rfl<|ck<|cq<|sr<|wm<|wF 2 u188 rfl ty76 rfl<|wl ty76 rfl (hs.c1 rfl)<|wV (run_toString u76 u9 u5 rfl ((hvs _ [] (by rw[append_nil];exact Step.dropL (L1:=[_,_,_,_]) hs))))<|wE rfl (run_call en182 rfl rfl) (nameR_spec (hnm (decide_eq_true hw)) _ (hls hs) (by omega)) ?_
     rintro e w ⟨rfl,hq⟩
     refine⟨_,rfl,?_⟩
     replace hs:=hs.callE hq
     refine wN rfl<|wZ ?_
     cases h3:bytesP bs p2 with
     | error er=>
      rw[h3] at hr
      have hne:er≠0:=by rcases bytesP_err h3 with h | h <;> omega
      refine cF rfl<|ck<|sr<|wm<|wE rfl (run_call en99 rfl rfl) (readBytes_at h3 (.inr rfl) _ (h.next hs) hb2.1) ?_
      rintro e w ⟨rfl,hq⟩
      refine⟨_,rfl,?_⟩
      replace hs:=Step.call (L1:=[_]) hs hq
      refine WL.alloc ty188 rfl hs (fun b8 w hs=>?_)
      refine WL.storeAll ty188 rfl rfl ((rfl)) (itemV_c1 rfl) hs (by rfl) (fun w hs=>?_)
      refine wZ<|cq<|sr<|wm<|wn rfl<|wF 2 u186 rfl ty3 rfl<|wl ty3 rfl (hs.c1 rfl)<|wV (run_bT (run_neq rfl rfl) (by exact hne))<|wZ ?_
      replace hs:=Step.front [_,_,_,_] hs
      refine cT rfl<|cq<|CW.any (A:=fun w=>Step [b] ((b4,blk 115 zE.cells)::(b8,blk 188 (itemV 4 0 (.slice none 0 0)))::RRB b bv p2 er::(b7,blk 188 (itemV 5 0 v))::(b6,blk 188 (itemV 1 k (.slice none 0 0)))::Lv) w0 w) (C:=fun w=>Step [b] ((b4,blk 115 zE.cells)::(b8,blk 188 (itemV 4 0 (.slice none 0 0)))::RRB b bv p2 er::(b7,blk 188 (itemV 5 0 v))::(b6,blk 188 (itemV 1 k (.slice none 0 0)))::Lv) w0 w) 1000000 7 mixedP rfl ?_
      replace hs:=hs.drew
      refine aV 0 rfl (fun w hs=>run_build rfl (bld_zE _))<|aM 1 rfl<|aN 2 rfl rfl<|aF 3 rfl 2 u186 rfl ty3 rfl<|aL 4 rfl ty3 rfl (fun w hs=>hs.c2 rfl)<|AL.one 5 (by kernel_rfl) rfl (hs) (hs) ?_
      refine WL.storeAll ty115 rfl rfl (rfl) (Ent.cells1 _) hs (by rfl) (fun w hs=>?_)
      refine wZ<|⟨rfl,?_⟩
      refine aA 6 rfl<|AL.end (by kernel_rfl) (hs) (hs) ?_
      refine CW.ret ?_
      refine fin_cellTmp rfl rfl (run_loadVarN ty115 rfl hs.a0) ?_
      exact .err hr.symm rfl (Step.dropR (L1:=[_]) (Step.dropL (L1:=[_,_]) hs))
     | ok dp=>
      obtain⟨d,p3⟩:=dp
      rw[h3] at hr
      have hb3:=bytesP_ok h3
      have hdl:=bytesP_len h3
      simp only at hr
      refine cF rfl<|ck<|sr<|wm<|wE rfl (run_call en99 rfl rfl) (readBytes_at h3 (.inr rfl) _ (h.next hs) hb2.1) ?_
      rintro e w ⟨v2,Lv2,rfl,hv2,hq⟩
      refine⟨_,rfl,?_⟩
      replace hs:=Step.call (L1:=[_]) hs hq
      refine WL.alloc ty188 rfl hs (fun b8 w hs=>?_)
      refine WL.storeAll ty188 rfl rfl ((rfl)) (itemV_c1 hv2.one) hs (by rfl) (fun w hs=>?_)
      refine wZ ?_
      replace hs:Step [b] ((b8,blk 188 (itemV 4 0 v2))::(b4,blk 115 zE.cells)::RRB b bv p3 0::(b7,blk 188 (itemV 5 0 v))::(b6,blk 188 (itemV 1 k (.slice none 0 0)))::(Lv++Lv2)) w0 w:=Step.swap (Step.front [_,_,_,_] (Step.mid [_,_] (L2:=Lv2) (L3:=_::_::_::Lv) hs))
      have ob:=hv2.form
      obtain⟨va,vc,rfl⟩:=ob
      have hvs2:=fun(w:World) (L1 L:OL) (hs:Step [b] (L1++(Lv++Lv2)) w0 w)=>hv2.sl (S:=[b]) (L:=[]) (w0:=w0) (w:=w) (by rw[append_nil];exact hs.dropL.dropL)
      refine cq<|sr<|wm<|wn rfl<|wF 2 u186 rfl ty3 rfl<|wl ty3 rfl (hs.c2 rfl)<|nF<|wZ ?_
      by_cases hd1:32<d.length
      ·rw[if_pos (show badD d from .inl hd1)] at hr
       refine cF rfl<|ck<|cq<|sr<|wF 2 u188 rfl ty76 rfl<|wl ty76 rfl (hs.c0 rfl)<|wL u76 rfl<|xT<|wm<|wz<|wz<|wz<|wz<|wz<|wz<|wz<|wz<|wz<|wz<|wz<|wz<|wz<|wz<|wz<|pT<|wZ ?_
       refine cT rfl<|sr<|wV (run_build rfl (bld_zE _))<|WL.storeAll_1 ty115 rfl rfl (by rfl) (by exact Cells1.of_all rfl) hs (by rfl) (fun w hs=>?_)
       refine wA<|wZ<|CW.ret ?_
       refine fin_cellTmp rfl rfl (run_loadVarN ty115 rfl hs.a1) ?_
       exact .err hr.symm rfl (Step.dropR (L1:=[_]) (Step.dropL (L1:=[_,_]) hs))
      ·by_cases hd2:d.length=0
       ·rw[if_neg (show ¬badD d from fun h=>h.elim hd1 (fun h=>by omega))] at hr
        refine cF rfl<|ck<|cq<|sr<|wF 2 u188 rfl ty76 rfl<|wl ty76 rfl (hs.c0 rfl)<|wL u76 rfl<|xF<|wm<|wy<|wF 2 u188 rfl ty76 rfl<|wy<|wl ty76 rfl (hs.c0 rfl)<|wy<|wL u76 rfl<|wy<|xF<|wy<|wm<|wz<|wz<|wz<|wz<|wz<|wz<|wz<|wz ?_
        refine wz<|wy<|pF<|pF<|wZ ?_
        have hd32:d.length≤32:=by omega
        have hcl:∀i,i≤d.length→(Ent.cells ⟨s,k,d.take i++List.replicate (32 - i) 0⟩).length=34:=fun i hi=>by simp[Ent.cells,u8s];omega
        have hfin:(⟨s,k,d.take d.length++List.replicate (32 - d.length) 0⟩:Ent)=⟨s,k,padD d⟩:=by rw[take_length];rfl
        refine cF rfl<|ck<|sr<|wF 2 u188 rfl ty76 rfl<|wl ty76 rfl (hs.c3 rfl)<|wV (run_toString u76 u9 u5 rfl ((hvs _ Lv2 (Step.dropL (L1:=[_,_,_,_,_]) hs))))<|wF 1 u188 rfl ty3 rfl<|wl ty3 rfl (hs.c4 rfl)<|wV (run_build rfl (bld_nk _ _ _))<|WL.alloc ty115 rfl hs (fun b9 w hs=>?_)
        refine WL.storeAll ty115 rfl rfl ((rfl)) (Ent.cells1 _) hs (by rfl) (fun w hs=>?_)
        refine wZ<|cq<|sr<|wA<|wZ<|cB<|CW.loop (fun m f w'=>∃i,i≤d.length∧m=d.length - i∧Step [b] ((b9,blk 115 (Ent.cells ⟨s,k,d.take i++List.replicate (32 - i) 0⟩))::(b8,blk 188 (itemV 4 0 (.slice va d.length vc)))::(b4,blk 115 zE.cells)::RRB b bv p3 0::(b7,blk 188 (itemV 5 0 v))::(b6,blk 188 (itemV 1 k (.slice none 0 0)))::(Lv++Lv2)) w0 w'∧Holds f [(4,pt b4),(8,pt b8),(9,pt b9),(10,.int .i64 i)]) (m:=d.length) ?_ ?_
        ·exact⟨0,by omega,by omega,hs,rfl,rfl,rfl,rfl,trivial⟩
        ·rintro m f w ⟨i,hi,rfl,hs,hf⟩
         have ob:=hf.chain
         obtain⟨g,rfl⟩:=ob
         have hcl1:=hcl i hi
         refine cq<|sr<|wm<|wF 2 u188 rfl ty76 rfl<|wl ty76 rfl (hs.c1 rfl)<|wL u76 rfl<|wV (run_lss rfl rfl)<|wZ<|CW.condP rfl (fun hlt=>?_) (fun hlt=>?_)
         ·have hlt':i<d.length:=by omega
          have ob:=cell_u8 (i:=i) (hvs2 _ [_,_,_,_,_,_] [] hs) hlt'
          obtain⟨bk',off',hva,hcell'⟩:=ob
          cases hva
          refine ck<|cq<|cB<|cr<|wm<|wF 2 u188 rfl ty76 rfl<|wl ty76 rfl (hs.c1 rfl)<|wm<|wI u76 ty5 rfl rfl<|wl ty5 rfl (hcell')<|wF 2 u115 rfl ty44 rfl<|wV (run_ixArrN u44 ty5 rfl rfl (by omega))<|ws1 ty5 rfl rfl (rfl) hs (fun w hs=>?_)
          refine wZ ?_
          replace hs:=hs.cast (set_dig s k d hlt' hd32)
          refine cr<|wm<|wP ((i+1:Nat):Int)<|wA<|wZ<|(show _∧_ from⟨rfl,_,?_,i+1,by omega,rfl,hs,rfl,rfl,rfl,rfl,trivial⟩)
          omega
         ·obtain rfl:i=d.length:=by omega
          rw[hfin] at hs hcl1
          refine CW.exit<|sr<|wR ty115 rfl (by assumption) hs.a0<|WL.storeAll_2 ty115 rfl rfl ((hcl1)) (Ent.cells1 _) hs (by rfl) (fun w hs=>?_)
          refine wA<|wZ<|CW.ret ?_
          refine fin_cellTmp rfl rfl (run_loadVarN ty115 hcl1 hs.a2) ?_
          exact .ok hr.symm rfl (Step.dropR (L1:=[_]) (Step.dropL (L1:=[_,_,_]) hs))
       ·have hi:d.length - 1<d.length:=by omega
        have hla:d.getLast?=some d[d.length - 1]:=by rw[getLast?_eq_getElem?,getElem?_eq_getElem hi]
        have ob:=cell_u8 (i:=d.length - 1) (hvs2 _ [_,_,_,_,_] [] hs) hi
        obtain⟨bk,off,rfl,hcell⟩:=ob
        by_cases hz:d[d.length - 1]=0
        ·rw[if_pos (show badD d from .inr ⟨by omega,by rw[hla,hz]⟩)] at hr
         refine cF rfl<|ck<|cq<|sr<|wF 2 u188 rfl ty76 rfl<|wl ty76 rfl (hs.c0 rfl)<|wL u76 rfl<|xF<|wm<|wy<|wF 2 u188 rfl ty76 rfl<|wy<|wl ty76 rfl (hs.c0 rfl)<|wy<|wL u76 rfl<|wy<|xT<|wy<|wm<|wy<|wF 2 u188 rfl ty76 rfl<|wy<|wl ty76 rfl (hs.c0 rfl)<|wy<|wF 2 u188 rfl ty76 rfl<|wy<|wl ty76 rfl (hs.c0 rfl) ?_
         refine wy<|wL u76 rfl<|wy<|wS ((d.length - 1:Nat):Int)<|wy<|wI u76 ty5 rfl rfl<|wy<|wl ty5 rfl (hcell)<|wy<|wV (run_bT (run_eql rfl rfl) (by rw[hz];rfl))<|wy<|pT<|pF<|wZ ?_
         refine cT rfl<|sr<|wV (run_build rfl (bld_zE _))<|WL.storeAll_1 ty115 rfl rfl (by rfl) (by exact Cells1.of_all rfl) hs (by rfl) (fun w hs=>?_)
         refine wA<|wZ<|CW.ret ?_
         refine fin_cellTmp rfl rfl (run_loadVarN ty115 rfl hs.a1) ?_
         exact .err hr.symm rfl (Step.dropR (L1:=[_]) (Step.dropL (L1:=[_,_]) hs))
        ·have hz':¬((d[d.length - 1].toNat:Int)=0):=fun h=>hz (UInt8.toNat_inj.1 (by simpa using h))
         rw[if_neg (show ¬badD d from fun h=>h.elim hd1 (fun h=>hz (by have:=h.2;rw[hla] at this;exact Option.some.inj this)))] at hr
         refine cF rfl<|ck<|cq<|sr<|wF 2 u188 rfl ty76 rfl<|wl ty76 rfl (hs.c0 rfl)<|wL u76 rfl<|xF<|wm<|wy<|wF 2 u188 rfl ty76 rfl<|wy<|wl ty76 rfl (hs.c0 rfl)<|wy<|wL u76 rfl<|wy<|xT<|wy<|wm<|wy<|wF 2 u188 rfl ty76 rfl<|wy<|wl ty76 rfl (hs.c0 rfl)<|wy<|wF 2 u188 rfl ty76 rfl<|wy<|wl ty76 rfl (hs.c0 rfl) ?_
         refine wy<|wL u76 rfl<|wy<|wS ((d.length - 1:Nat):Int)<|wy<|wI u76 ty5 rfl rfl<|wy<|wl ty5 rfl (hcell)<|wy<|wV (run_bF (run_eql rfl rfl) (by exact hz'))<|wy<|pT<|pF<|wZ ?_
         generalize hva0:some (⟨bk,off,none⟩:Addr)=va at hs hvs2⊢
         have hd32:d.length≤32:=by omega
         have hcl:∀i,i≤d.length→(Ent.cells ⟨s,k,d.take i++List.replicate (32 - i) 0⟩).length=34:=fun i hi=>by simp[Ent.cells,u8s];omega
         have hfin:(⟨s,k,d.take d.length++List.replicate (32 - d.length) 0⟩:Ent)=⟨s,k,padD d⟩:=by rw[take_length];rfl
         refine cF rfl<|ck<|sr<|wF 2 u188 rfl ty76 rfl<|wl ty76 rfl (hs.c3 rfl)<|wV (run_toString u76 u9 u5 rfl ((hvs _ Lv2 (Step.dropL (L1:=[_,_,_,_,_]) hs))))<|wF 1 u188 rfl ty3 rfl<|wl ty3 rfl (hs.c4 rfl)<|wV (run_build rfl (bld_nk _ _ _))<|WL.alloc ty115 rfl hs (fun b9 w hs=>?_)
         refine WL.storeAll ty115 rfl rfl ((rfl)) (Ent.cells1 _) hs (by rfl) (fun w hs=>?_)
         refine wZ<|cq<|sr<|wA<|wZ<|cB<|CW.loop (fun m f w'=>∃i,i≤d.length∧m=d.length - i∧Step [b] ((b9,blk 115 (Ent.cells ⟨s,k,d.take i++List.replicate (32 - i) 0⟩))::(b8,blk 188 (itemV 4 0 (.slice va d.length vc)))::(b4,blk 115 zE.cells)::RRB b bv p3 0::(b7,blk 188 (itemV 5 0 v))::(b6,blk 188 (itemV 1 k (.slice none 0 0)))::(Lv++Lv2)) w0 w'∧Holds f [(4,pt b4),(8,pt b8),(9,pt b9),(10,.int .i64 i)]) (m:=d.length) ?_ ?_
         ·exact⟨0,by omega,by omega,hs,rfl,rfl,rfl,rfl,trivial⟩
         ·rintro m f w ⟨i,hi,rfl,hs,hf⟩
          have ob:=hf.chain
          obtain⟨g,rfl⟩:=ob
          have hcl1:=hcl i hi
          refine cq<|sr<|wm<|wF 2 u188 rfl ty76 rfl<|wl ty76 rfl (hs.c1 rfl)<|wL u76 rfl<|wV (run_lss rfl rfl)<|wZ<|CW.condP rfl (fun hlt=>?_) (fun hlt=>?_)
          ·have hlt':i<d.length:=by omega
           have ob:=cell_u8 (i:=i) (hvs2 _ [_,_,_,_,_,_] [] hs) hlt'
           obtain⟨bk',off',hva,hcell'⟩:=ob
           cases hva
           refine ck<|cq<|cB<|cr<|wm<|wF 2 u188 rfl ty76 rfl<|wl ty76 rfl (hs.c1 rfl)<|wm<|wI u76 ty5 rfl rfl<|wl ty5 rfl (hcell')<|wF 2 u115 rfl ty44 rfl<|wV (run_ixArrN u44 ty5 rfl rfl (by omega))<|ws1 ty5 rfl rfl (rfl) hs (fun w hs=>?_)
           refine wZ ?_
           replace hs:=hs.cast (set_dig s k d hlt' hd32)
           refine cr<|wm<|wP ((i+1:Nat):Int)<|wA<|wZ<|(show _∧_ from⟨rfl,_,?_,i+1,by omega,rfl,hs,rfl,rfl,rfl,rfl,trivial⟩)
           omega
          ·obtain rfl:i=d.length:=by omega
           rw[hfin] at hs hcl1
           refine CW.exit<|sr<|wR ty115 rfl (by assumption) hs.a0<|WL.storeAll_2 ty115 rfl rfl ((hcl1)) (Ent.cells1 _) hs (by rfl) (fun w hs=>?_)
           refine wA<|wZ<|CW.ret ?_
           refine fin_cellTmp rfl rfl (run_loadVarN ty115 hcl1 hs.a2) ?_
           exact .ok hr.symm rfl (Step.dropR (L1:=[_]) (Step.dropL (L1:=[_,_,_]) hs))
    ·rw[if_neg hw] at hr
     refine cF rfl<|ck<|cq<|sr<|wm<|wF 2 u188 rfl ty76 rfl<|wl ty76 rfl (hs.c1 rfl)<|wV (run_toString u76 u9 u5 rfl ((hvs _ [] (by rw[append_nil];exact Step.dropL (L1:=[_,_,_,_]) hs))))<|wE rfl (run_call en182 rfl rfl) (nameR_spec (hnm (decide_eq_false hw)) _ (hls hs) (by omega)) ?_
     rintro e w ⟨rfl,hq⟩
     refine⟨_,rfl,?_⟩
     replace hs:=hs.callE hq
     refine wN rfl<|wZ<|cT rfl<|sr<|wV (run_build rfl (bld_zE _))<|WL.storeAll_3 ty115 rfl rfl (by rfl) (by exact Cells1.of_all rfl) hs (by rfl) (fun w hs=>?_)
     refine wA<|wZ<|CW.ret ?_
     refine fin_cellTmp rfl rfl (run_loadVarN ty115 rfl hs.a3) ?_
     exact .err hr.symm rfl (Step.dropR (L1:=[_]) hs)
  ·rw[if_neg (by omega)] at hr
   refine cF rfl<|ck<|cq<|sr<|wF 1 u188 rfl ty3 rfl<|wl ty3 rfl (hs.c0 rfl)<|wE rfl (run_call en181 rfl rfl) (kind_spec _ _) ?_
   rintro e w ⟨rfl,hq⟩
   refine⟨_,rfl,?_⟩
   rw[decide_eq_false hk]
   replace hs:=hs.callE hq
   refine wN rfl<|wZ<|cT rfl<|sr<|wV (run_build rfl (bld_zE _))<|WL.storeAll_2 ty115 rfl rfl (by rfl) (by exact Cells1.of_all rfl) hs (by rfl) (fun w hs=>?_)
   refine wA<|wZ<|CW.ret ?_
   refine fin_cellTmp rfl rfl (run_loadVarN ty115 rfl hs.a2) ?_
   exact .err hr.symm rfl (Step.dropR (L1:=[_]) (Step.dropL (L1:=[_]) hs))
theorem bld_rr (a:Option Addr) (m c:Nat) (w:World):(Instr.build 186 #[(0,.slice a m c)]).run Tryz.prog w=.ok (.agg #[.slice a m c,.int .i64 0,.int .i64 0]) w:=by kernel_rfl
def DecRes (bs:(List UInt8)) (w0:World) (e:Ending) (w':World):Prop:=∃u Lv,e=.returned (.tuple #[u,.int .i64 (decE bs)])∧OwnSl 115 34 u (decL bs).length (rows (decL bs)) Lv∧Oks (decL bs)∧(decL bs).length≤1024∧Step [] Lv w0 w'
theorem DecRes.err{bs:U8}{w0 w':World}{L:OL}{er:Int} (he:decE bs=er) (hne:er≠0) (hs:Step [] L w0 w'):DecRes bs w0 (.returned (.tuple #[.slice none 0 0,.int .i64 er])) w':=by
 have hl:decL bs=[]:=by unfold decL;rw[if_neg (by rw[he];exact hne)]
 unfold DecRes
 rw[he,hl]
 exact⟨_,_,rfl,.nil _ _,Oks.nil,by simp,hs.clear⟩
theorem decodeR_at{bs:U8}{v:Value} (w0:World) (hv:Sl w0 1 v bs.length (u8s bs)) (hroom:Room v) (hlen:bs.length≤9223372036854775807) :
  CP 103 #[v] w0 (DecRes bs w0):=by
 have hs:Step [] [] w0 w0:=Step.refl w0
 obtain⟨a,c,rfl⟩:∃a c,v=.slice a bs.length c:=by
  have ob:=id hv
  obtain⟨_,⟨_,c,rfl,h0⟩ | ⟨b,off,c,rfl,_⟩⟩:=ob
  ·exact⟨_,_,by rw[h0]⟩
  ·exact⟨_,_,rfl⟩
 by_cases hbig:1048576<bs.length
 ·have he:decE bs=2:=if_pos hbig
  refine calls (n:=64) Tryz.func103 rfl rfl rfl ?_
  refine sr<|wA<|wA<|wZ<|cq<|sr<|wm<|wL u76 rfl<|xT<|wZ<|cT rfl<|cq ?_
  refine cr<|wA<|wA<|wZ<|CW.ret ?_
  refine fin_ret2 rfl ?_
  exact .err he (by decide) hs
 ·have he:decE bs=(readP bs).1:=if_neg hbig
  have herr:∀{er:Int},decP bs=.error er→decE bs=er:=fun h=>by rw[he];unfold readP;rw[h]
  refine calls (n:=64) Tryz.func103 rfl rfl rfl ?_
  refine sr<|wA<|wA<|wZ<|cq<|sr<|wm<|wL u76 rfl<|xF<|wZ<|cF rfl<|ck<|cq ?_
  refine cr<|wm<|wV (run_build rfl (bld_rr _ _ _ _))<|WL.box (cs:=[.slice a bs.length c,.int .i64 0,.int .i64 0]) rfl rfl rfl hs (fun b16 w hs=>?_)
  refine wA<|wZ ?_
  generalize b16=b at *
  have hout:bs=[]∨Outside (.slice a bs.length c) [b]:=(Outside.newer hv hs (fun k hk=>by simpa using hk)).imp (fun e=>by simpa[u8s] using e) id
  replace hs:Step [] [RRB b (.slice a bs.length c) 0 0] w0 w:=hs
  have rd:∀{w:World}{p:Nat}{L:OL},Step [] (RRB b (.slice a bs.length c) p 0::L) w0 w→RrOk w b bs (.slice a bs.length c) p:=fun h=>⟨Step.own (L1:=[_]) h,hv.step0 h.clear,hout,hroom,by omega⟩
  cases h1:numP bs 0 with
  | error er=>
   have hne:er≠0:=by rcases numP_err h1 with h | h <;> omega
   refine sr<|wm<|wE rfl (run_call en99 rfl rfl) (readNum_at h1 _ (rd hs) (by omega)) ?_
   rintro e w ⟨rfl,hq⟩
   refine⟨_,rfl,?_⟩
   replace hs:=Step.call (L1:=[_]) hs hq
   refine WL.alloc ty188 rfl hs (fun b5 w hs=>?_)
   refine WL.storeAll ty188 rfl rfl ((rfl)) (itemV_c1 rfl) hs (by rfl) (fun w hs=>?_)
   refine wZ<|cq<|sr<|wm<|wn rfl<|wF 2 u186 rfl ty3 rfl<|wl ty3 rfl (hs.c1 rfl)<|wV (run_bT (run_neq rfl rfl) (by exact hne))<|wZ<|cT rfl<|cq<|CW.quiet mixedP (by kernel_rfl) hs ?_
   refine qm<|qn rfl<|qF 2 u186 rfl ty3 rfl<|qL ty3 rfl (fun w hs=>hs.c1 rfl)<|qA<|qA<|QL.nil (fun w hs=>?_)
   refine CW.ret ?_
   refine fin_ret2 rfl ?_
   exact .err (herr (by unfold decP;rw[h1])) hne hs
  | ok tp=>
   obtain⟨t,p1⟩:=tp
   have hb1:=numP_ok h1
   refine sr<|wm<|wE rfl (run_call en99 rfl rfl) (readNum_at h1 _ (rd hs) (by omega)) ?_
   rintro e w ⟨rfl,hq⟩
   refine⟨_,rfl,?_⟩
   replace hs:=Step.call (L1:=[_]) hs hq
   refine WL.alloc ty188 rfl hs (fun b5 w hs=>?_)
   refine WL.storeAll ty188 rfl rfl ((rfl)) (itemV_c1 rfl) hs (by rfl) (fun w hs=>?_)
   refine wZ<|cq<|sr<|wm<|wn rfl<|wF 2 u186 rfl ty3 rfl<|wl ty3 rfl (hs.c1 rfl)<|nF<|wZ ?_
   by_cases ht:t=1
   ·subst ht
    refine cF rfl<|ck<|cq<|sr<|wF 1 u188 rfl ty3 rfl<|wl ty3 rfl (hs.c0 rfl)<|nF<|wZ ?_
    replace hs:Step [] [RRB b (.slice a bs.length c) p1 0] w0 w:=hs.tail
    cases h2:mostP 1024 bs p1 with
    | error er=>
     have hne:er≠0:=by
      unfold mostP at h2
      split at h2
      ·rename_i h3;injection h2 with h;subst h;rcases numP_err h3 with h | h <;> omega
      ·split at h2
       ·injection h2 with h;omega
       ·cases h2
     refine cF rfl<|ck<|sr<|wm<|wE rfl (run_call en146 rfl rfl) (mostR_at h2 _ (rd hs) hb1.1) ?_
     rintro e w ⟨rfl,hq⟩
     refine⟨_,rfl,?_⟩
     replace hs:=Step.call (L1:=[_]) hs hq
     refine wA<|wZ<|cq<|sr<|wm<|wn rfl<|wF 2 u186 rfl ty3 rfl<|wl ty3 rfl (hs.c0 rfl)<|wV (run_bT (run_neq rfl rfl) (by exact hne))<|wZ<|cT rfl<|cq<|CW.quiet mixedP (by kernel_rfl) hs ?_
     refine qm<|qn rfl<|qF 2 u186 rfl ty3 rfl<|qL ty3 rfl (fun w hs=>hs.c0 rfl)<|qA<|qA<|QL.nil (fun w hs=>?_)
     refine CW.ret ?_
     refine fin_ret2 rfl ?_
     exact .err (herr (by unfold decP;rw[h1];simp[h2])) hne hs
    | ok nq=>
     obtain⟨n,q0⟩:=nq
     have hb2:=mostP_ok h2
     have hdec:decP bs=entsP bs n [] q0:=by unfold decP;rw[h1];simp[h2]
     refine cF rfl<|ck<|sr<|wm<|wE rfl (run_call en146 rfl rfl) (mostR_at h2 _ (rd hs) hb1.1) ?_
     rintro e w ⟨rfl,hq⟩
     refine⟨_,rfl,?_⟩
     replace hs:=Step.call (L1:=[_]) hs hq
     refine wA<|wZ<|cq<|sr<|wm<|wn rfl<|wF 2 u186 rfl ty3 rfl<|wl ty3 rfl (hs.c0 rfl)<|nF<|wZ<|cF rfl<|ck<|cq ?_
     refine cr<|wA<|wZ<|cq<|sr<|wA<|wZ<|cB<|CW.loop (fun m f w'=>∃i l q v Lv,i≤n∧m=n - i∧q≤bs.length∧l.length=i∧decP bs=preR l (entsP bs (n - i) (lastN l) q)∧OwnSl 115 34 v l.length (rows l) Lv∧Oks l∧Step [] (RRB b (.slice a bs.length c) q 0::Lv) w0 w'∧Holds f [(4,pt b),(6,.int .i64 n),(7,v),(8,.int .i64 i)]) (m:=n) ?_ ?_
     ·exact⟨0,[],q0,_,[],by omega,by omega,hb2.1,rfl,by rw[preR_nil];exact hdec,.nil _ _,Oks.nil,hs,rfl,rfl,rfl,rfl,trivial⟩
     ·rintro m f w ⟨i,l,q,v,Lv,hi,rfl,hq0,hll,hr,hvo,hok,hs,hf⟩
      have ob:=hf.chain
      obtain⟨g,rfl⟩:=ob
      refine cq<|sr<|wm<|wm<|wV (run_lss rfl rfl)<|wZ<|CW.condP rfl (fun h=>?_) (fun h=>?_)
      ·have hlt:i<n:=by omega
       have ob:∃j,n - i=j+1:=⟨n - i - 1,by omega⟩
       obtain⟨j,hj⟩:=ob
       rw[hj] at hr
       have hs':=Step.append_comm (L1:=[_]) hs
       have hes:Es w v l:=hvo.es hok (by omega) hs'
       have hvout:Outside v [b]:=hvo.outside fun p hp=>hs'.disj p hp
       have ob:=hvo.form
       obtain⟨va,vc,rfl⟩:=ob
       cases h3:entP (lastN l) bs q with
       | error er=>
        rw[entsP_stop l h3] at hr
        have hne:=entP_err h3
        refine ck<|cq<|cB<|sr<|wm<|wm<|wE rfl (run_call en147 rfl rfl) (one_at h3 _ (rd hs) hq0 hes hvout) ?_
        rintro e w ⟨o,rfl,hq⟩
        refine⟨_,rfl,?_⟩
        replace hs:=Step.call (L1:=[_]) hs hq
        refine wm<|wx rfl rfl<|wx rfl rfl<|WL.alloc ty115 rfl hs (fun b9 w hs=>?_)
        refine WL.storeAll ty115 rfl rfl ((rfl)) (Ent.cells1 _) hs (by rfl) (fun w hs=>?_)
        refine wA<|wZ<|cq<|sr<|wm<|wV (run_bT (run_neq rfl rfl) (by exact hne))<|wZ<|cT rfl<|sr<|wm<|wA<|wA<|wZ ?_
        refine CW.ret ?_
        refine fin_ret2 rfl ?_
        exact .err (herr hr) hne hs
       | ok xq=>
        obtain⟨x,q'⟩:=xq
        rw[entsP_step l h3] at hr
        have hxo:=entP_ok (by omega) h3
        have hxl:=Ent.cells_len hxo.1
        refine ck<|cq<|cB<|sr<|wm<|wm<|wE rfl (run_call en147 rfl rfl) (one_at h3 _ (rd hs) hq0 hes hvout) ?_
        rintro e w ⟨rfl,hq⟩
        refine⟨_,rfl,?_⟩
        replace hs:=Step.call (L1:=[_]) hs hq
        refine wm<|wx rfl rfl<|wx rfl rfl<|WL.alloc ty115 rfl hs (fun b9 w hs=>?_)
        refine WL.storeAll ty115 rfl rfl ((hxl)) (x.cells1) hs (by rfl) (fun w hs=>?_)
        refine wA<|wZ<|cq<|sr<|wm<|nF<|wZ<|cF rfl<|ck<|cr<|wm<|wR ty115 rfl (by assumption) hs.a0<|WL.buildSlice (cs:=x.cells) u116 ty115 rfl (by decide) rfl (filled1 hxl rfl) rfl hs (fun b58 w hs=>?_)
        have hsl:Sl w 34 (.slice (some ⟨b58,0,none⟩) 1 1) 1 x.cells:=.own1 hs (by rw[hxl])
        refine WL.append u116 u116 ty115 rfl (by decide) rfl rfl (hvo) ((Step.append_comm (L1:=[_,_,_]) hs)) (hsl) (x.cells1) (by omega) rfl (fun v59 Lv59 w hv59 hs=>?_)
        refine wA<|wZ ?_
        replace hs:=Step.tail (Step.tail (Step.append_comm hs))
        refine cr<|wm<|wP ((i+1:Nat):Int)<|wA<|wZ<|(show _∧_ from⟨rfl,_,?_,i+1,l++[x],q',_,_,by omega,rfl,hxo.2.1,?_,?_,?_,hok.append (Oks.one hxo.1),hs,rfl,rfl,rfl,rfl,trivial⟩)
        ·omega
        ·simp[hll]
        ·rw[hr,lastN_snoc,show n - (i+1)=j by omega]
        ·rw[length_append,rows_append,rows_one]
         exact hv59
      ·obtain rfl:i=n:=by omega
       have hr2:decP bs=.ok (l,q):=by
        rw[hr,show i - i=0 by omega]
        simp[entsP,preR]
       by_cases hlt:q<bs.length
       ·refine CW.exit<|cq<|sr<|wm<|wE rfl (run_call en100 rfl rfl) (leftR_at _ (rd hs) hq0) ?_
        rintro e w ⟨rfl,hq⟩
        refine⟨_,rfl,?_⟩
        replace hs:=Step.call (L1:=[_]) hs hq
        refine xT<|wZ<|cT rfl<|sr<|wA<|wA<|wZ<|CW.ret ?_
        refine fin_ret2 rfl ?_
        exact .err (by rw[he];unfold readP;rw[hr2];simp[hlt]) (by decide) hs
       ·refine CW.exit<|cq<|sr<|wm<|wE rfl (run_call en100 rfl rfl) (leftR_at _ (rd hs) hq0) ?_
        rintro e w ⟨rfl,hq⟩
        refine⟨_,rfl,?_⟩
        replace hs:=Step.call (L1:=[_]) hs hq
        refine xF<|wZ<|cF rfl<|ck<|sr<|wm<|wA<|wA<|wZ<|CW.ret ?_
        refine fin_ret2 rfl ?_
        have he0:decE bs=0:=by rw[he];unfold readP;rw[hr2];simp[hlt]
        have hl:decL bs=l:=by unfold decL;rw[if_pos he0];unfold readP;rw[hr2];simp[hlt]
        unfold DecRes
        rw[he0,hl]
        exact⟨v,Lv,rfl,hvo,hok,by omega,hs.tail⟩
   ·refine cF rfl<|ck<|cq<|sr<|wF 1 u188 rfl ty3 rfl<|wl ty3 rfl (hs.c0 rfl)<|wV (run_bT (run_neq rfl rfl) (by show(t:Int)≠1;omega))<|wZ<|cT rfl<|sr<|wA<|wA<|wZ ?_
    refine CW.ret ?_
    refine fin_ret2 rfl ?_
    exact .err (herr (by unfold decP;rw[h1];simp only;rw[if_neg ht])) (by decide) hs
end Go.Gx
namespace Go.Gx
open Go.Proofs Go.RowKit List
def splitL:(List UInt8)→List (List UInt8)
 | []=>[[]]
 | c::s=>if c=47 then []::splitL s else match splitL s with
  | []=>[[c]]
  | p::ps=>(c::p)::ps
def partsL (s:(List UInt8)):List (List UInt8):=if s=[] then [] else splitL s
theorem splitL_ne:∀s,splitL s≠[]
 | []=>by simp[splitL]
 | c::s=>by
  rw[splitL]
  split
  ·simp
  ·split <;> simp
theorem splitL_none:∀{s:U8},47∉s→splitL s=[s]
 | [],_=>rfl
 | c::s,h=>by
  simp only[mem_cons,not_or] at h
  rw[splitL,if_neg (fun e=>h.1 e.symm),splitL_none h.2]
theorem splitL_hit{b:U8}:∀{a:U8},47∉a→splitL (a++47::b)=a::splitL b
 | [],_=>by simp[splitL]
 | c::a,h=>by
  simp only[mem_cons,not_or] at h
  rw[cons_append,splitL,if_neg (fun e=>h.1 e.symm),splitL_hit h.2]
theorem refParts_spec{s:U8} (w0:World) (hs1:s.length<4294967281):CP 154 #[str s] w0 fun e w'=>∃u Lu,e=.returned u∧OwnSl 9 1 u (partsL s).length (strs (partsL s)) Lu∧Step [] Lu w0 w':=by
 have hs:Step [] [] w0 w0:=Step.refl w0
 by_cases h0:s=[]
 ·have e:partsL s=[]:=if_pos h0
  rw[e]
  refine calls (n:=34) Tryz.func154 rfl rfl rfl ?_
  refine sr<|wA<|wZ<|cq<|sr<|wm<|wV (run_bT (run_strEq rfl rfl) (by exact h0))<|wZ<|cT rfl<|sr<|wA<|wZ ?_
  refine CW.ret ?_
  refine fin_ret1 rfl ?_
  exact⟨_,_,rfl,.nil _ _,hs⟩
 ·have e:partsL s=splitL s:=if_neg h0
  rw[e]
  refine calls (n:=34) Tryz.func154 rfl rfl rfl ?_
  refine sr<|wA<|wZ<|cq<|sr<|wm<|wV (run_bF (run_strEq rfl rfl) (by exact h0))<|wZ<|cF rfl<|ck<|sr<|wA<|wZ<|sr<|wA<|wZ<|cq<|sr<|wA<|wZ<|cB ?_
  refine CW.loop (fun m f w'=>∃i fr P u Lu,i≤s.length+1∧m=s.length+1 - i∧P.length≤i∧(i≤s.length→fr≤i∧splitL s=P++splitL (s.drop fr)∧47∉(s.drop fr).take (i - fr))∧(i=s.length+1→splitL s=P)∧OwnSl 9 1 u P.length (strs P) Lu∧Step [] Lu w0 w'∧Holds f [(0,str s),(3,u),(4,.int .i64 fr),(5,.int .i64 i)]) (m:=s.length+1) ?_ ?_
  ·exact⟨0,0,[],_,[],by omega,by omega,by simp,fun _=>⟨by omega,rfl,by simp⟩,fun h=>by omega,.nil _ _,hs,rfl,rfl,rfl,rfl,trivial⟩
  ·clear hs
   rintro m f w ⟨i,fr,P,u,Lu,hi,rfl,hPl,hin,hout,hu,hs,hf⟩
   have ob:=hf.chain
   obtain⟨g,rfl⟩:=ob
   by_cases hle:i≤s.length
   ·have ob:=hin hle
    obtain⟨hfr,hsp,hno⟩:=ob
    have hdt:(s.drop fr).take (i - fr)=(s.take i).drop fr:=by rw[drop_take]
    by_cases hend:i=s.length
    ·have hlast:splitL s=P++[(s.take i).drop fr]:=by
      rw[hsp,splitL_none (by rw[hdt,hend,take_length] at hno;exact hno),hend,take_length]
     refine cq<|sr<|wm<|wm<|wV (run_lenStr u9 rfl)<|iT<|wZ<|cT rfl<|ck<|cq<|cB<|sr<|wm<|wm<|wV (run_lenStr u9 rfl)<|eT<|wm<|wz<|wz<|wz<|wz<|pT<|wZ ?_
     refine cT rfl<|sr<|wm<|wm<|wm<|wm<|wV (run_sliceStr u9 rfl rfl rfl (by omega) (by omega))<|WL.buildSlice (cs:=[str ((s.take i).drop fr)]) u256 ty9 rfl (by decide) rfl (filled_s _ _ rfl) rfl hs (fun b29 w hs=>?_)
     have hsl:Sl w 1 (.slice (some ⟨b29,0,none⟩) 1 1) 1 [str ((s.take i).drop fr)]:=.own1 hs rfl
     refine WL.append u256 u256 ty9 rfl (by decide) rfl rfl (hu) ((Step.append_comm (L1:=[_]) hs)) (hsl) ((fun v hv=>by rw[mem_singleton.1 hv];rfl)) (by omega) rfl (fun v30 Lv30 w hv30 hs=>?_)
     refine wA<|wZ<|cr<|wm<|wP ((i+1:Nat):Int)<|wA<|wZ<|cr<|wm<|wP ((i+1:Nat):Int)<|wA<|wZ ?_
     have eP:strs P++[str ((s.take i).drop fr)]=strs (P++[(s.take i).drop fr]):=by simp[strs]
     rw[eP] at hv30
     refine(show _∧_ from⟨rfl,_,?_,i+1,i+1,P++[(s.take i).drop fr],_,_,by omega,rfl,by simp;omega,fun h=>by omega,fun _=>hlast,?_,Step.dropR hs,rfl,rfl,rfl,rfl,trivial⟩)
     ·omega
     ·rw[length_append]
      exact hv30
    ·have hlt:i<s.length:=by omega
     have hc:s[i]?=some s[i]:=getElem?_eq_getElem hlt
     have hdi:s.drop fr=(s.take i).drop fr++s[i]::s.drop (i+1):=by
      rw[←hdt,←drop_eq_getElem_cons hlt]
      have:s.drop i=(s.drop fr).drop (i - fr):=by rw[drop_drop];congr 1;omega
      rw[this,take_append_drop]
     by_cases hsl:s[i]=47
     ·have hcut:splitL s=P++[(s.take i).drop fr]++splitL (s.drop (i+1)):=by
       rw[hdt] at hno
       rw[hsp,hdi,hsl,splitL_hit hno,append_assoc]
       rfl
      refine cq<|sr<|wm<|wm<|wV (run_lenStr u9 rfl)<|iT<|wZ<|cT rfl<|ck<|cq<|cB<|sr<|wm<|wm<|wV (run_lenStr u9 rfl)<|eF<|wm<|wy<|wm<|wy<|wm<|wy<|wV (run_strIdx u9 rfl rfl (hc))<|wy<|wV (run_bT (run_eql rfl rfl) (by rw[hsl];rfl))<|pF<|wZ ?_
      refine cT rfl<|sr<|wm<|wm<|wm<|wm<|wV (run_sliceStr u9 rfl rfl rfl (by omega) (by omega))<|WL.buildSlice (cs:=[str ((s.take i).drop fr)]) u256 ty9 rfl (by decide) rfl (filled_s _ _ rfl) rfl hs (fun b29 w hs=>?_)
      have hsl:Sl w 1 (.slice (some ⟨b29,0,none⟩) 1 1) 1 [str ((s.take i).drop fr)]:=.own1 hs rfl
      refine WL.append u256 u256 ty9 rfl (by decide) rfl rfl (hu) ((Step.append_comm (L1:=[_]) hs)) (hsl) ((fun v hv=>by rw[mem_singleton.1 hv];rfl)) (by omega) rfl (fun v30 Lv30 w hv30 hs=>?_)
      refine wA<|wZ<|cr<|wm<|wP ((i+1:Nat):Int)<|wA<|wZ<|cr<|wm<|wP ((i+1:Nat):Int)<|wA<|wZ ?_
      have eP:strs P++[str ((s.take i).drop fr)]=strs (P++[(s.take i).drop fr]):=by simp[strs]
      rw[eP] at hv30
      refine(show _∧_ from⟨rfl,_,?_,i+1,i+1,P++[(s.take i).drop fr],_,_,by omega,rfl,by simp;omega,fun h=>⟨Nat.le_refl _,hcut,by simp⟩,fun h=>by omega,?_,Step.dropR hs,rfl,rfl,rfl,rfl,trivial⟩)
      ·omega
      ·rw[length_append]
       exact hv30
     ·have hnz:¬((s[i].toNat:Int)=47):=fun h=>hsl (UInt8.toNat_inj.1 (by simpa using(show s[i].toNat=47 by omega)))
      refine cq<|sr<|wm<|wm<|wV (run_lenStr u9 rfl)<|iT<|wZ<|cT rfl<|ck<|cq<|cB<|sr<|wm<|wm<|wV (run_lenStr u9 rfl)<|eF<|wm<|wy<|wm<|wy<|wm<|wy<|wV (run_strIdx u9 rfl rfl (hc))<|wy<|wV (run_bF (run_eql rfl rfl) (by exact hnz))<|pF<|wZ ?_
      refine cF rfl<|ck<|cr<|wm<|wP ((i+1:Nat):Int)<|wA<|wZ<|(show _∧_ from⟨rfl,_,?_,i+1,fr,P,u,Lu,by omega,rfl,by omega,fun h=>⟨by omega,hsp,?_⟩,fun h=>by omega,hu,hs,rfl,rfl,rfl,rfl,trivial⟩)
      ·omega
      ·rw[show i+1 - fr=(i - fr)+1 by omega,take_succ_eq_append_getElem (by rw[length_drop];omega),mem_append]
       rintro(h | h)
       ·exact hno h
       ·rw[mem_singleton,getElem_drop] at h
        apply hsl
        rw[h]
        congr 1
        omega
   ·obtain rfl:i=s.length+1:=by omega
    refine cq<|sr<|wm<|wm<|wV (run_lenStr u9 rfl)<|iF<|wZ<|cF rfl<|CW.exit<|sr<|wm<|wA<|wZ ?_
    refine CW.ret ?_
    refine fin_ret1 rfl ?_
    rw[hout rfl]
    exact⟨u,Lu,rfl,hu,hs⟩
section
variable{P:Program}{f:Slots}{w:World}{d:Option Tmp}{ty:TypeId}{pos:String}{af:Array Edge}{x y z:Operand}{T T':TypeId}{s t:U8}
theorem run_strAdd (hx:ev f x=str s) (hy:ev f y=str t) (hl:s.length+t.length≤9223372036854775807):(execOp (ev f) ⟨d,.binOp .add T x y T',ty,pos,af,none⟩).run P w=.ok (.value (str (s++t))) w:=by
 have h:¬(9223372036854775807<(s.length:Int)+(t.length:Int)):=by omega
 have e:ByteArray.mk ⟨s⟩++ByteArray.mk ⟨t⟩=⟨⟨s++t⟩⟩:=by
  apply ByteArray.ext
  simp
 simp[execOp,hx,hy,str,go_sem,binOp,Op.stringOp,h,e]
end
def joinL (l:List (List UInt8)):(List UInt8):=[47].intercalate l
theorem join_len:∀l:List (List UInt8),(joinL l).length≤(l.map fun x=>x.length+1).sum
 | []=>by simp[joinL,intercalate]
 | [x]=>by simp[joinL,intercalate]
 | x::y::l=>by
  have ih:=join_len (y::l)
  have e:joinL (x::y::l)=x++47::joinL (y::l):=by simp[joinL,intercalate,intersperse]
  rw[e]
  simp only[length_append,length_cons,map_cons,sum_cons] at *
  omega
theorem splitL_len:∀s,(splitL s).length≤s.length+1
 | []=>by simp[splitL]
 | c::s=>by
  have ih:=splitL_len s
  rw[splitL]
  split
  ·simp;omega
  ·split
   ·simp
   ·rename_i p ps h
    rw[h] at ih
    simp at ih⊢
    omega
theorem partsL_len (s:U8):(partsL s).length≤s.length+1:=by
 unfold partsL
 split
 ·simp
 ·exact splitL_len s
def Named (row:List (List UInt8)):Prop:=∀p∈row,isName p=true
theorem isName_le{s:U8} (h:isName s=true):s.length≤64:=by
 simp only[isName,Bool.and_eq_true,decide_eq_true_eq] at h
 exact h.1.2.1
theorem named_join:∀{row:List (List UInt8)},Named row→(row.map fun x=>x.length+1).sum≤65*row.length
 | [],_=>by simp
 | x::row,h=>by
  have h1:=isName_le (h x (by simp))
  have h2:=named_join (row:=row) (fun p hp=>h p (by simp[hp]))
  simp only[map_cons,sum_cons,length_cons]
  omega
theorem splitL_le:∀(s p:U8),p∈splitL s→p.length≤s.length
 | [],p,h=>by
  simp[splitL] at h
  simp[h]
 | c::s,p,h=>by
  have ih:=splitL_le s
  rw[splitL] at h
  split at h
  ·rcases mem_cons.1 h with rfl | h
   ·simp
   ·have:=ih p h;simp;omega
  ·split at h
   ·rcases mem_cons.1 h with rfl | h
    ·simp
    ·cases h
   ·rename_i q qs hq
    rw[hq] at ih
    rcases mem_cons.1 h with rfl | h
    ·have:=ih q (by simp);simp;omega
    ·have:=ih p (by simp[h]);simp;omega
theorem partsL_le{s p:U8} (h:p∈partsL s):p.length≤s.length:=by
 unfold partsL at h
 split at h
 ·cases h
 ·exact splitL_le s p h
theorem joinL_snoc (l:List (List UInt8)) (p:U8):joinL (l++[p])=(if 0<l.length then joinL l++[47] else joinL l)++p:=by
 induction l with
 | nil=>simp[joinL,intercalate]
 | cons x l ih=>
  rw[if_pos (by simp)]
  cases l with
  | nil=>simp[joinL,intercalate]
  | cons y l=>
   rw[if_pos (by simp)] at ih
   have e1:joinL (x::y::l)=x++47::joinL (y::l):=by simp[joinL,intercalate,intersperse]
   have e2:joinL (x::y::l++[p])=x++47::joinL (y::l++[p]):=by simp[joinL,intercalate,intersperse]
   rw[e2,ih,e1]
   simp
theorem joinL_take{l:List (List UInt8)}{i:Nat}{p:U8} (h:l[i]?=some p):joinL (l.take (i+1))=(if 0<i then joinL (l.take i)++[47] else joinL (l.take i))++p:=by
 have hi:=(List.getElem?_eq_some_iff.1 h).1
 rw[take_add_one,h]
 show joinL (l.take i++[p])=_
 rw[joinL_snoc,length_take,Nat.min_eq_left (by omega)]
theorem joinTake_len{l:List (List UInt8)} (i:Nat):(joinL (l.take i)).length≤(l.map fun x=>x.length+1).sum:=by
 have h1:=join_len (l.take i)
 have h2:((l.take i).map fun x=>x.length+1).sum≤(l.map fun x=>x.length+1).sum:=by
  conv=>rhs;rw[←take_append_drop i l]
  rw[map_append,sum_append]
  omega
 omega
set_option maxHeartbeats 2000000 in
theorem refPath_spec{u:Value}{ps:List (List UInt8)}{S:List Nat}{Lp:OL} (w0:World) (hu:OwnSl 9 1 u ps.length (strs ps) Lp) (hs:Step S Lp w0 w0) (hbd:(ps.map fun x=>x.length+1).sum≤9000000):CP 184 #[u] w0 (Ret0 (str (joinL ps)) w0):=by
 have hs0:Step [] [] w0 w0:=Step.refl w0
 have hform:=hu.form
 obtain⟨a,c,hq2⟩:=hform
 subst hq2
 have hpl:ps.length≤(ps.map fun x=>x.length+1).sum:=by
  clear hbd hu hs
  induction ps with
  | nil=>simp
  | cons x ps ih=>simp;omega
 have hbase:ps=[]∨∃bp,a=some ⟨bp,0,none⟩∧∀i p,ps[i]?=some p→w0.cell? ⟨bp,0+i*1,none⟩=some (str p):=by
  by_cases h0:ps=[]
  ·exact .inl h0
  ·right
   have ob:=hu.some1 (length_pos_iff.2 h0)
   obtain⟨bp,cp,more,hq1,hqL,hcp⟩:=ob
   cases hq1
   subst hqL
   refine⟨bp,rfl,fun i p hpi=>?_⟩
   have hlt:=(List.getElem?_eq_some_iff.1 hpi).1
   rw[cell_blk hs.hd,Nat.zero_add,Nat.mul_one,getElem?_append_left (by rw[strs_len];exact hlt)]
   simp[strs,hpi]
 have hcl:ps.length≤c:=by
  rcases hbase with h | ⟨bp,rfl,_⟩
  ·rw[h];simp
  ·by_cases h0:ps=[]
   ·rw[h0];simp
   ·have ob:=hu.some1 (length_pos_iff.2 h0)
    obtain⟨bp,cp,more,hq1,hqL,hcp⟩:=ob
    cases hq1
    rw[length_append,strs_len] at hcp
    omega
 refine calls (n:=22) Tryz.func184 rfl rfl rfl ?_
 refine sr<|wA<|wZ<|sr<|wA<|wZ<|cq<|sr<|wA<|wZ<|cB ?_
 refine CW.loop (fun m f w'=>∃i,i≤ps.length∧m=ps.length - i∧w'=w0∧Holds f [(0,.slice a ps.length c),(3,str (joinL (ps.take i))),(4,.int .i64 i)]) (m:=ps.length) ?_ ?_
 ·exact⟨0,by omega,by omega,rfl,rfl,rfl,rfl,trivial⟩
 ·rintro m f w ⟨i,hi,rfl,rfl,hf⟩
  have hs:Step [] [] w w:=Step.refl w
  have ob:=hf.chain
  obtain⟨g,rfl⟩:=ob
  by_cases hlt:i<ps.length
  ·rcases hbase with h | ⟨bp,rfl,hcells⟩
   ·rw[h] at hlt;cases hlt
   have ob:∃p,ps[i]?=some p:=⟨_,getElem?_eq_getElem hlt⟩
   obtain⟨p,hpi⟩:=ob
   have hcell:=hcells i p hpi
   have hjt:=joinL_take hpi
   have hl1:=joinTake_len (l:=ps) i
   have hl2:=joinTake_len (l:=ps) (i+1)
   refine cq<|sr<|wm<|wm<|wL u256 rfl<|lT<|wZ ?_
   by_cases h0:0<i
   ·rw[if_pos h0] at hjt
    have hl3:=congrArg List.length hjt
    rw[length_append,length_append] at hl3
    simp only[length_cons,length_nil] at hl3
    refine cT rfl<|ck<|cq<|cB<|cq<|sr<|wm<|xT<|wZ<|cT rfl<|cr<|wm<|wV (run_strAdd rfl rfl ((by simp only[length_cons,length_nil];omega)))<|wA<|wZ<|cr<|wm<|wm<|wm<|wI u256 ty9 rfl rfl<|wl ty9 rfl (hcell)<|wV (run_strAdd rfl rfl ((by simp only[length_append,length_cons,length_nil];omega)))<|wA<|wZ<|cr<|wm<|wP ((i+1:Nat):Int)<|wA<|wZ ?_
    rw[hjt.symm]
    refine(show _∧_ from⟨rfl,_,?_,i+1,by omega,rfl,rfl,rfl,rfl,rfl,trivial⟩)
    omega
   ·rw[if_neg h0] at hjt
    have hl3:=congrArg List.length hjt
    rw[length_append] at hl3
    refine cT rfl<|ck<|cq<|cB<|cq<|sr<|wm<|xF<|wZ<|cF rfl<|ck<|cr<|wm<|wm<|wm<|wI u256 ty9 rfl rfl<|wl ty9 rfl (hcell)<|wV (run_strAdd rfl rfl ((by omega)))<|wA<|wZ<|cr<|wm<|wP ((i+1:Nat):Int)<|wA<|wZ ?_
    refine(show _∧_ from⟨rfl,_,?_,i+1,by omega,rfl,rfl,rfl,by rw[hjt];rfl,rfl,trivial⟩)
    omega
  ·have hii:i=ps.length:=by omega
   refine cq<|sr<|wm<|wm<|wL u256 rfl<|lF<|wZ<|cF rfl<|CW.exit<|sr<|wm<|wA<|wZ ?_
   refine CW.ret ?_
   refine fin_ret1 rfl ?_
   rw[hii,take_length]
   exact⟨rfl,hs⟩
def isCleanL (s:(List UInt8)):Bool:=(partsL s).all isName && decide ((partsL s).length≤32)
theorem refIsClean_spec{s:U8} (w0:World) (hs1:s.length<4294967281):CP 149 #[str s] w0 (Ret0 (.bool (isCleanL s)) w0):=by
 have hs:Step [] [] w0 w0:=Step.refl w0
 have hpl:=partsL_len s
 have hple:∀p∈partsL s,p.length≤s.length:=fun p h=>partsL_le h
 refine calls (n:=22) Tryz.func149 rfl rfl rfl ?_
 refine sr<|wA<|wZ<|sr<|wm<|wE rfl (run_call en154 rfl rfl) (refParts_spec _ hs1) ?_
 rintro e w ⟨u,Lp,rfl,hu,hq⟩
 refine⟨_,rfl,?_⟩
 have hs:=hq
 have hform:=hu.form
 obtain⟨a,c,hq2⟩:=hform
 subst hq2
 refine wA<|wZ ?_
 have ob:∃ps,partsL s=ps:=⟨_,rfl⟩
 obtain⟨ps,hps⟩:=ob
 have hic:isCleanL s=(ps.all isName && decide (ps.length≤32)):=by rw[isCleanL,hps]
 rw[hps] at hpl hu hple
 rw[hic]
 refine cq<|sr<|wA<|wZ<|cB<|CW.loop (fun m f w'=>∃i,i≤ps.length∧m=ps.length - i∧(ps.all isName=(ps.drop i).all isName)∧Step [] Lp w0 w'∧Holds f [(3,.slice a ps.length c),(4,.int .i64 i)]) (m:=ps.length) ?_ ?_
 ·exact⟨0,by omega,by omega,rfl,hs,by rw[←hps];rfl,rfl,trivial⟩
 ·clear hs hq
  rintro m f w ⟨i,hi,rfl,hall,hs,hf⟩
  have ob:=hf.chain
  obtain⟨g,rfl⟩:=ob
  by_cases hlt:i<ps.length
  ·have ob:∃p,ps[i]=p:=⟨_,rfl⟩
   obtain⟨p,hp⟩:=ob
   rw[drop_eq_getElem_cons hlt,hp,all_cons] at hall
   have hpi:ps[i]?=some p:=by rw[getElem?_eq_getElem hlt,hp]
   have hpl1:=hple p (mem_of_getElem? hpi)
   have hsm:=hu.some1 (by omega)
   obtain⟨bp,cp,more,hq1,hqL,hcp⟩:=hsm
   cases hq1
   subst hqL
   have hcl:ps.length≤c:=by
    rw[length_append,strs_len] at hcp
    omega
   have hcell:w.cell? ⟨bp,0+i*1,none⟩=some (str p):=by
    rw[cell_blk hs.hd,Nat.zero_add,Nat.mul_one,getElem?_append_left (by rw[strs_len];exact hlt)]
    simp[strs,hpi]
   refine cq<|sr<|wm<|wm<|wL u256 rfl<|lT<|wZ ?_
   by_cases h4:isName p=false
   ·rw[h4,Bool.false_and] at hall
    refine cT rfl<|ck<|cq<|cB<|sr<|wm<|wm<|wI u256 ty9 rfl rfl<|wl ty9 rfl (hcell)<|wE rfl (run_call en183 rfl rfl) (refIsName_spec h4 _ (by omega)) ?_
    rintro e w ⟨rfl,hq⟩
    refine⟨_,rfl,?_⟩
    replace hs:=hs.callE hq
    refine wN rfl<|wZ<|cT rfl<|sr<|wA<|wZ<|CW.ret ?_
    refine fin_ret1 rfl ?_
    rw[hall]
    exact⟨rfl,Step.dropR (L1:=[]) hs⟩
   ·have h5:isName p=true:=by simpa using h4
    rw[h5,Bool.true_and] at hall
    refine cT rfl<|ck<|cq<|cB<|sr<|wm<|wm<|wI u256 ty9 rfl rfl<|wl ty9 rfl (hcell)<|wE rfl (run_call en183 rfl rfl) (refIsName_spec h5 _ (by omega)) ?_
    rintro e w ⟨rfl,hq⟩
    refine⟨_,rfl,?_⟩
    replace hs:=hs.callE hq
    refine wN rfl<|wZ<|cF rfl<|ck<|cr<|wm<|wP ((i+1:Nat):Int)<|wA<|wZ<|(show _∧_ from⟨rfl,_,?_,i+1,by omega,rfl,hall,hs,rfl,rfl,trivial⟩)
    omega
  ·have hii:i=ps.length:=by omega
   rw[hii,drop_length,all_nil] at hall
   rw[hall,Bool.true_and]
   by_cases h6:ps.length≤32
   ·rw[decide_eq_true h6]
    refine cq<|sr<|wm<|wm<|wL u256 rfl<|lF<|wZ<|cF rfl<|CW.exit<|sr<|wm<|wL u256 rfl<|iT<|wA<|wZ ?_
    refine CW.ret ?_
    refine fin_ret1 rfl ?_
    exact⟨rfl,Step.dropR (L1:=[]) hs⟩
   ·rw[decide_eq_false h6]
    refine cq<|sr<|wm<|wm<|wL u256 rfl<|lF<|wZ<|cF rfl<|CW.exit<|sr<|wm<|wL u256 rfl<|iF<|wA<|wZ ?_
    refine CW.ret ?_
    refine fin_ret1 rfl ?_
    exact⟨rfl,Step.dropR (L1:=[]) hs⟩
section
def cmpL (a b:(List UInt8)):Int:=if Op.bytesLess a b=true then -1 else if a=b then 0 else 1
def cmpF:List (List UInt8)→List (List UInt8)→Int
 | [],[]=>0
 | [],_::_=>-1
 | _::_,[]=>1
 | a::x,b::y=>if cmpL a b≠0 then cmpL a b else cmpF x y
theorem cellsOf{u:Value}{ps:List (List UInt8)}{Lp:OL}{S:List Nat}{w0 w:World} (hu:OwnSl 9 1 u ps.length (strs ps) Lp) (hs:Step S Lp w0 w):∃a c,u=.slice a ps.length c∧ps.length≤c∧(ps=[]∨∃bp,a=some ⟨bp,0,none⟩∧∀i p,ps[i]?=some p→w.cell? ⟨bp,0+i*1,none⟩=some (str p)):=by
 have ob:=hu.form
 obtain⟨a,c,rfl⟩:=ob
 by_cases h0:ps=[]
 ·exact⟨a,c,rfl,by rw[h0];simp,.inl h0⟩
 ·have ob:=hu.some1 (length_pos_iff.2 h0)
  obtain⟨bp,cp,more,hq1,hqL,hcp⟩:=ob
  cases hq1
  subst hqL
  refine⟨_,_,rfl,?_,.inr ⟨bp,rfl,fun i p hpi=>?_⟩⟩
  ·rw[length_append,strs_len] at hcp
   omega
  ·have hlt:=(List.getElem?_eq_some_iff.1 hpi).1
   rw[cell_blk hs.hd,Nat.zero_add,Nat.mul_one,getElem?_append_left (by rw[strs_len];exact hlt)]
   simp[strs,hpi]
theorem Sl0.keep{ps:List (List UInt8)}{a:Option Addr}{L:OL}{w w':World} (h:ps=[]∨∃bp,a=some ⟨bp,0,none⟩∧∀i p,ps[i]?=some p→w.cell? ⟨bp,0+i*1,none⟩=some (str p)) (hs:Step [] L w w'):ps=[]∨∃bp,a=some ⟨bp,0,none⟩∧∀i p,ps[i]?=some p→w'.cell? ⟨bp,0+i*1,none⟩=some (str p):=by
 rcases h with h | ⟨bp,h1,h2⟩
 ·exact .inl h
 ·refine .inr ⟨bp,h1,fun i p hpi=>?_⟩
  have h3:=h2 i p hpi
  have hlx:bp<w.heap.size:=Nat.lt_of_not_le fun hge=>by
   simp[World.cell?,Array.getElem?_eq_none hge] at h3
  rw[cell_of_heap (hs.chg.block bp hlx (by simp))]
  exact h3
theorem cmpF_eq (p:U8) (x y:List (List UInt8)):cmpF (p::x) (p::y)=cmpF x y:=by
 have h:cmpL p p=0:=by
  unfold cmpL
  split
  ·rename_i h
   exact absurd ((cmp_lt p p).2 h) (by rw[(cmp_eq0 p p).2 rfl];decide)
  ·rw[if_pos rfl]
 rw[cmpF,if_neg (by simp[h])]
theorem cmpF_ne{p q:U8} (x y:List (List UInt8)) (h:p≠q):decide (cmpF (p::x) (q::y)<0)=Op.bytesLess p q:=by
 rw[cmpF]
 by_cases h1:Op.bytesLess p q=true
 ·have e:cmpL p q = -1:=by rw[cmpL,if_pos h1]
  rw[e,h1];rfl
 ·have e:cmpL p q=1:=by rw[cmpL,if_neg h1,if_neg h]
  rw[e]
  have:Op.bytesLess p q=false:=by simpa using h1
  rw[this];rfl
theorem keepCell{b o:Nat}{v:Value}{L:OL}{w w':World} (h:w.cell? ⟨b,o,none⟩=some v) (hs:Step [] L w w'):w'.cell? ⟨b,o,none⟩=some v:=by
 have hlx:b<w.heap.size:=Nat.lt_of_not_le fun hge=>by
  simp[World.cell?,Array.getElem?_eq_none hge] at h
 rw[cell_of_heap (hs.chg.block b hlx (by simp))]
 exact h
set_option maxHeartbeats 2000000 in
theorem refLess_spec{s t:U8} (w0:World) (hs1:s.length<4294967281) (ht1:t.length<4294967281):CP 150 #[str s,str t] w0 (Ret0 (.bool (decide (cmpF (partsL s) (partsL t)<0))) w0):=by
 have hs:Step [] [] w0 w0:=Step.refl w0
 have hpl:=partsL_len s
 have hpt:=partsL_len t
 refine calls (n:=47) Tryz.func150 rfl rfl rfl ?_
 refine sr<|wA<|wZ<|sr<|wm<|wE rfl (run_call en154 rfl rfl) (refParts_spec _ hs1) ?_
 rintro e w ⟨u,Lu,rfl,hu,hq⟩
 refine⟨_,rfl,?_⟩
 have hs:=hq
 refine wA<|wZ<|sr<|wm<|wE rfl (run_call en154 rfl rfl) (refParts_spec _ ht1) ?_
 rintro e w ⟨u2,Lv,rfl,hv,hq2⟩
 refine⟨_,rfl,?_⟩
 have hxx:=cellsOf hu hs
 obtain⟨a,c,hq3,hcl,hcx⟩:=hxx
 subst hq3
 have hyy:=cellsOf hv hq2
 obtain⟨a2,c2,hq4,hcl2,hcy⟩:=hyy
 subst hq4
 have hcx2:=Sl0.keep hcx hq2
 replace hs:=hs.dropR (L1:=[])
 replace hs:=hs.call0 (hq2.dropR (L1:=[]))
 refine wA<|wZ<|cq<|sr<|wA<|wZ ?_
 have ob:∃x,partsL s=x:=⟨_,rfl⟩
 obtain⟨x,hx⟩:=ob
 have ob:∃y,partsL t=y:=⟨_,rfl⟩
 obtain⟨y,hy⟩:=ob
 rw[hx] at hpl hcl hcx2
 rw[hy] at hpt hcl2 hcy
 rw[hx,hy]
 have hs0:=hs
 refine cB<|CW.loop (fun m f w'=>∃i,i≤x.length∧m=x.length - i∧i≤y.length∧decide (cmpF x y<0)=decide (cmpF (x.drop i) (y.drop i)<0)∧Step [] [] w w'∧Holds f [(5,.slice a x.length c),(6,.slice a2 y.length c2),(7,.int .i64 i)]) (m:=x.length) ?_ ?_
 ·exact⟨0,by omega,by omega,by omega,rfl,Step.refl _,by rw[←hx];rfl,by rw[←hy];rfl,rfl,trivial⟩
 ·clear hs
  rintro m f w' ⟨i,hi,rfl,hiy,hgo,hs,hf⟩
  have ob:=hf.chain
  obtain⟨g,rfl⟩:=ob
  by_cases hlt:i<x.length
  ·rcases hcx2 with h | ⟨bx,rfl,hcx2⟩
   ·rw[h] at hlt;cases hlt
   have ob:∃p,x[i]=p:=⟨_,rfl⟩
   obtain⟨p,hp⟩:=ob
   have hc1:∀{w'':World},Step [] [] w w''→w''.cell? ⟨bx,0+i*1,none⟩=some (str p):=fun hs=>keepCell (hcx2 i p (by rw[getElem?_eq_getElem hlt,hp])) hs
   rw[drop_eq_getElem_cons hlt,hp] at hgo
   by_cases hly:i<y.length
   ·rcases hcy with h | ⟨by',rfl,hcy⟩
    ·rw[h] at hly;cases hly
    have ob:∃q,y[i]=q:=⟨_,rfl⟩
    obtain⟨q,hq⟩:=ob
    have hc2:∀{w'':World},Step [] [] w w''→w''.cell? ⟨by',0+i*1,none⟩=some (str q):=fun hs=>keepCell (hcy i q (by rw[getElem?_eq_getElem hly,hq])) hs
    rw[drop_eq_getElem_cons hly,hq] at hgo
    by_cases hpq:p=q
    ·rw[hpq,cmpF_eq] at hgo
     refine cq<|sr<|wm<|wm<|wL u256 rfl<|lT<|wm<|wy<|wm<|wy<|wm<|wy<|wL u256 rfl<|wy<|lT<|pT<|wZ ?_
     refine cT rfl<|ck<|cq<|cB<|cq<|CW.quiet mixedP (by kernel_rfl) hs ?_
     refine qm<|qm<|qI u256 ty9 rfl rfl<|qL ty9 rfl (fun w hs=>hc1 hs)<|qm<|qm<|qI u256 ty9 rfl rfl<|qL ty9 rfl (fun w hs=>hc2 hs)<|qV (fun w hs=>run_bF (run_strNe rfl rfl) (by(exact fun h=>h hpq)))<|QL.nil (fun w hs=>?_)
     refine cF rfl<|ck<|cr<|wm<|wP ((i+1:Nat):Int)<|wA<|wZ<|(show _∧_ from⟨rfl,_,?_,i+1,by omega,rfl,by omega,hgo,hs,rfl,rfl,rfl,trivial⟩)
     omega
    ·rw[cmpF_ne _ _ hpq] at hgo
     refine cq<|sr<|wm<|wm<|wL u256 rfl<|lT<|wm<|wy<|wm<|wy<|wm<|wy<|wL u256 rfl<|wy<|lT<|pT<|wZ ?_
     refine cT rfl<|ck<|cq<|cB<|cq<|CW.quiet mixedP (by kernel_rfl) hs ?_
     refine qm<|qm<|qI u256 ty9 rfl rfl<|qL ty9 rfl (fun w hs=>hc1 hs)<|qm<|qm<|qI u256 ty9 rfl rfl<|qL ty9 rfl (fun w hs=>hc2 hs)<|qV (fun w hs=>run_bT (run_strNe rfl rfl) (by exact hpq))<|QL.nil (fun w hs=>?_)
     refine cT rfl<|cq<|CW.quiet mixedP (by kernel_rfl) hs ?_
     refine qm<|qm<|qI u256 ty9 rfl rfl<|qL ty9 rfl (fun w hs=>hc1 hs)<|qm<|qm<|qI u256 ty9 rfl rfl<|qL ty9 rfl (fun w hs=>hc2 hs)<|qV (fun w hs=>run_bE (run_strLt rfl rfl) (rfl))<|qA<|QL.nil (fun w hs=>?_)
     refine CW.ret ?_
     refine fin_ret1 rfl ?_
     exact⟨by rw[hgo];rfl,hs0.callE hs⟩
   ·rw[drop_eq_nil_of_le (by omega:y.length≤i),cmpF] at hgo
    refine cq<|sr<|wm<|wm<|wL u256 rfl<|lT<|wm<|wy<|wm<|wy<|wm<|wy<|wL u256 rfl<|wy<|lF<|pT<|wZ ?_
    refine cF rfl<|CW.exit<|sr<|wm<|wL u256 rfl<|wm<|wL u256 rfl<|lF<|wA<|wZ<|CW.ret ?_
    refine fin_ret1 rfl ?_
    exact⟨by rw[hgo];rfl,hs0.callE hs⟩
  ·have hii:i=x.length:=by omega
   rw[drop_eq_nil_of_le (by omega:x.length≤i)] at hgo
   by_cases hly:i<y.length
   ·rw[drop_eq_getElem_cons hly,cmpF] at hgo
    refine cq<|sr<|wm<|wm<|wL u256 rfl<|lF<|wm<|wz<|wz<|wz<|wz<|pF<|wZ ?_
    refine cF rfl<|CW.exit<|sr<|wm<|wL u256 rfl<|wm<|wL u256 rfl<|lT<|wA<|wZ<|CW.ret ?_
    refine fin_ret1 rfl ?_
    exact⟨by rw[hgo];rfl,hs0.callE hs⟩
   ·rw[drop_eq_nil_of_le (by omega:y.length≤i),cmpF] at hgo
    refine cq<|sr<|wm<|wm<|wL u256 rfl<|lF<|wm<|wz<|wz<|wz<|wz<|pF<|wZ ?_
    refine cF rfl<|CW.exit<|sr<|wm<|wL u256 rfl<|wm<|wL u256 rfl<|lF<|wA<|wZ<|CW.ret ?_
    refine fin_ret1 rfl ?_
    exact⟨by rw[hgo];rfl,hs0.callE hs⟩
end
def Texts (w:World) (a:Option Addr) (x:List (List UInt8)):Prop:=x=[]∨∃bp,a=some ⟨bp,0,none⟩∧∀i p,x[i]?=some p→w.cell? ⟨bp,0+i*1,none⟩=some (str p)
theorem Texts.get{w:World}{a:Option Addr}{x:List (List UInt8)} (h:Texts w a x){i:Nat} (hi:i<x.length):∃bp p,a=some ⟨bp,0,none⟩∧x[i]?=some p∧p∈x∧∀{L w'},Step [] L w w'→w'.cell? ⟨bp,0+i*1,none⟩=some (str p):=by
 rcases h with h | ⟨bp,h1,h2⟩
 ·rw[h] at hi;cases hi
 ·exact⟨bp,x[i],h1,getElem?_eq_getElem hi,getElem_mem hi,fun hs=>keepCell (h2 i _ (getElem?_eq_getElem hi)) hs⟩
def underL (x y:List (List UInt8)):Bool:=decide (x=y.take x.length)
theorem refUnder_spec{s t:U8} (w0:World) (hs1:s.length<4294967281) (ht1:t.length<4294967281):CP 153 #[str s,str t] w0 (Ret0 (.bool (underL (partsL s) (partsL t))) w0):=by
 have hpl:=partsL_len s
 have hpt:=partsL_len t
 refine calls (n:=32) Tryz.func153 rfl rfl rfl ?_
 refine sr<|wA<|wZ<|sr<|wm<|wE rfl (run_call en154 rfl rfl) (refParts_spec _ hs1) ?_
 rintro e w ⟨u,Lu,rfl,hu,hq⟩
 refine⟨_,rfl,?_⟩
 have hs:=hq
 refine wA<|wZ<|sr<|wm<|wE rfl (run_call en154 rfl rfl) (refParts_spec _ ht1) ?_
 rintro e w ⟨u2,Lv,rfl,hv,hq2⟩
 refine⟨_,rfl,?_⟩
 have hxx:=cellsOf hu hs
 obtain⟨a,c,hq3,hcl,hcx⟩:=hxx
 subst hq3
 have hyy:=cellsOf hv hq2
 obtain⟨a2,c2,hq4,hcl2,hcy⟩:=hyy
 subst hq4
 have hcx2:Texts _ _ _:=Sl0.keep hcx hq2
 replace hs:=hs.dropR (L1:=[])
 replace hs:=hs.call0 (hq2.dropR (L1:=[]))
 refine wA<|wZ ?_
 by_cases hle:(partsL s).length≤(partsL t).length
 ·refine cq<|sr<|wm<|wL u256 rfl<|wm<|wL u256 rfl<|xF<|wZ<|cF rfl<|ck<|cq<|sr<|wA<|wZ ?_
  have hs0:=hs
  refine cB<|CW.loop (fun m f w'=>∃i,i≤(partsL s).length∧m=(partsL s).length - i∧(partsL s).take i=(partsL t).take i∧Step [] [] w w'∧Holds f [(5,.slice a (partsL s).length c),(6,.slice a2 (partsL t).length c2),(7,.int .i64 i)]) (m:=(partsL s).length) ?_ ?_
  ·exact⟨0,by omega,by omega,by simp,Step.refl _,rfl,rfl,rfl,trivial⟩
  ·clear hs
   rintro m f w' ⟨i,hi,rfl,hsame,hs,hf⟩
   have ob:=hf.chain
   obtain⟨g,rfl⟩:=ob
   by_cases hlt:i<(partsL s).length
   ·have ob:=Texts.get hcx2 hlt
    obtain⟨bx,p,rfl,hpi,hpm,hcp⟩:=ob
    have ob:=Texts.get hcy (show i<(partsL t).length by omega)
    obtain⟨bq,q,rfl,hqi,hqm,hcq⟩:=ob
    by_cases hpq:p=q
    ·refine cq<|sr<|wm<|wm<|wL u256 rfl<|lT<|wZ<|cT rfl<|ck<|cq<|cB<|cq<|CW.quiet mixedP (by kernel_rfl) hs ?_
     refine qm<|qm<|qI u256 ty9 rfl rfl<|qL ty9 rfl (fun w hs=>hcp hs)<|qm<|qm<|qI u256 ty9 rfl rfl<|qL ty9 rfl (fun w hs=>hcq hs)<|qV (fun w hs=>run_bF (run_strNe rfl rfl) (by(exact fun h=>h hpq)))<|QL.nil (fun w hs=>?_)
     refine cF rfl<|ck<|cr<|wm<|wP ((i+1:Nat):Int)<|wA<|wZ<|(show _∧_ from⟨rfl,_,?_,i+1,by omega,rfl,?_,hs,rfl,rfl,rfl,trivial⟩)
     ·omega
     ·rw[take_add_one,take_add_one,hsame,hpi,hqi,hpq]
    ·refine cq<|sr<|wm<|wm<|wL u256 rfl<|lT<|wZ<|cT rfl<|ck<|cq<|cB<|cq<|CW.quiet mixedP (by kernel_rfl) hs ?_
     refine qm<|qm<|qI u256 ty9 rfl rfl<|qL ty9 rfl (fun w hs=>hcp hs)<|qm<|qm<|qI u256 ty9 rfl rfl<|qL ty9 rfl (fun w hs=>hcq hs)<|qV (fun w hs=>run_bT (run_strNe rfl rfl) (by exact hpq))<|QL.nil (fun w hs=>?_)
     refine cT rfl<|sr<|wA<|wZ<|CW.ret ?_
     refine fin_ret1 rfl ?_
     refine⟨congrArg (fun b=>Ending.returned (.bool b)) (show false=underL (partsL s) (partsL t) from(decide_eq_false fun h=>hpq ?_).symm),hs0.callE hs⟩
     have h1:=congrArg (·[i]?) h
     simp only[getElem?_take,if_pos hlt,hpi,hqi] at h1
     exact Option.some.inj h1
   ·obtain rfl:i=(partsL s).length:=by omega
    refine cq<|sr<|wm<|wm<|wL u256 rfl<|lF<|wZ<|cF rfl<|CW.exit<|sr<|wA<|wZ ?_
    refine CW.ret ?_
    refine fin_ret1 rfl ?_
    refine⟨congrArg (fun b=>Ending.returned (.bool b)) (show true=underL (partsL s) (partsL t) from(decide_eq_true ?_).symm),hs0.callE hs⟩
    rw[←hsame,take_length]
 ·refine cq<|sr<|wm<|wL u256 rfl<|wm<|wL u256 rfl<|xT<|wZ<|cT rfl<|sr<|wA<|wZ ?_
  refine CW.ret ?_
  refine fin_ret1 rfl ?_
  refine⟨congrArg (fun b=>Ending.returned (.bool b)) (show false=underL (partsL s) (partsL t) from(decide_eq_false fun h=>hle ?_).symm),hs⟩
  have:=congrArg List.length h
  rw[length_take] at this
  omega
end Go.Gx
namespace Go.Gx
open Go.Proofs List
theorem exists_cons' {α:Type}{l:List α}{n:Nat} (h:l.length=n+1):∃a t,l=a::t∧t.length=n:=by
 cases l with
 | nil=>simp at h
 | cons a t=>exact⟨a,t,rfl,by simpa using h⟩
theorem cells32{l:U8} (h:l.length=32):∃a0 a1 a2 a3 a4 a5 a6 a7 a8 a9 a10 a11 a12 a13 a14 a15 a16 a17 a18 a19 a20 a21 a22 a23 a24 a25 a26 a27 a28 a29 a30 a31,l=[a0,a1,a2,a3,a4,a5,a6,a7,a8,a9,a10,a11,a12,a13,a14,a15,a16,a17,a18,a19,a20,a21,a22,a23,a24,a25,a26,a27,a28,a29,a30,a31]:=by
 have ob:=exists_cons' h
 obtain⟨a0,l0,rfl,h0⟩:=ob
 have ob:=exists_cons' h0
 obtain⟨a1,l1,rfl,h1⟩:=ob
 have ob:=exists_cons' h1
 obtain⟨a2,l2,rfl,h2⟩:=ob
 have ob:=exists_cons' h2
 obtain⟨a3,l3,rfl,h3⟩:=ob
 have ob:=exists_cons' h3
 obtain⟨a4,l4,rfl,h4⟩:=ob
 have ob:=exists_cons' h4
 obtain⟨a5,l5,rfl,h5⟩:=ob
 have ob:=exists_cons' h5
 obtain⟨a6,l6,rfl,h6⟩:=ob
 have ob:=exists_cons' h6
 obtain⟨a7,l7,rfl,h7⟩:=ob
 have ob:=exists_cons' h7
 obtain⟨a8,l8,rfl,h8⟩:=ob
 have ob:=exists_cons' h8
 obtain⟨a9,l9,rfl,h9⟩:=ob
 have ob:=exists_cons' h9
 obtain⟨a10,l10,rfl,h10⟩:=ob
 have ob:=exists_cons' h10
 obtain⟨a11,l11,rfl,h11⟩:=ob
 have ob:=exists_cons' h11
 obtain⟨a12,l12,rfl,h12⟩:=ob
 have ob:=exists_cons' h12
 obtain⟨a13,l13,rfl,h13⟩:=ob
 have ob:=exists_cons' h13
 obtain⟨a14,l14,rfl,h14⟩:=ob
 have ob:=exists_cons' h14
 obtain⟨a15,l15,rfl,h15⟩:=ob
 have ob:=exists_cons' h15
 obtain⟨a16,l16,rfl,h16⟩:=ob
 have ob:=exists_cons' h16
 obtain⟨a17,l17,rfl,h17⟩:=ob
 have ob:=exists_cons' h17
 obtain⟨a18,l18,rfl,h18⟩:=ob
 have ob:=exists_cons' h18
 obtain⟨a19,l19,rfl,h19⟩:=ob
 have ob:=exists_cons' h19
 obtain⟨a20,l20,rfl,h20⟩:=ob
 have ob:=exists_cons' h20
 obtain⟨a21,l21,rfl,h21⟩:=ob
 have ob:=exists_cons' h21
 obtain⟨a22,l22,rfl,h22⟩:=ob
 have ob:=exists_cons' h22
 obtain⟨a23,l23,rfl,h23⟩:=ob
 have ob:=exists_cons' h23
 obtain⟨a24,l24,rfl,h24⟩:=ob
 have ob:=exists_cons' h24
 obtain⟨a25,l25,rfl,h25⟩:=ob
 have ob:=exists_cons' h25
 obtain⟨a26,l26,rfl,h26⟩:=ob
 have ob:=exists_cons' h26
 obtain⟨a27,l27,rfl,h27⟩:=ob
 have ob:=exists_cons' h27
 obtain⟨a28,l28,rfl,h28⟩:=ob
 have ob:=exists_cons' h28
 obtain⟨a29,l29,rfl,h29⟩:=ob
 have ob:=exists_cons' h29
 obtain⟨a30,l30,rfl,h30⟩:=ob
 have ob:=exists_cons' h30
 obtain⟨a31,l31,rfl,h31⟩:=ob
 obtain rfl:=eq_nil_of_length_eq_zero h31
 exact⟨a0,a1,a2,a3,a4,a5,a6,a7,a8,a9,a10,a11,a12,a13,a14,a15,a16,a17,a18,a19,a20,a21,a22,a23,a24,a25,a26,a27,a28,a29,a30,a31,rfl⟩
structure Blb where
 d:(List UInt8)
 x:(List UInt8)
 st:Nat
structure AS where
 k:Nat
 cap:Nat
 last:Nat
 gets:Nat
 puts:Nat
 X:List Blb
def usedX (X:List Blb):Nat:=(X.map fun b=>b.x.length+32).sum
def findX (d:(List UInt8)) (X:List Blb):Option Blb:=X.find? fun b=>decide (b.d=d)
def insX (b:Blb):List Blb→List Blb
 | []=>[b]
 | c::X=>if c.d=b.d then b::X else if ltD b.d c.d then b::c::X else c::insX b X
def delX (d:(List UInt8)) (X:List Blb):List Blb:=X.filter fun b=>decide (b.d≠d)
abbrev SortedX (X:List Blb):Prop:=X.Pairwise fun a b=>ltD a.d b.d=true
structure AS.Ok (s:AS):Prop where
 k1:1≤s.k
 k2:s.k≤32
 cap:s.cap≤67108864
 sorted:SortedX s.X
 len:∀b∈s.X,b.d.length=32
 used:usedX s.X≤67108864
structure AS.Few (s:AS) (n:Nat):Prop where
 last:s.last≤n
 gets:s.gets≤n
 puts:s.puts≤n
theorem AS.Few.mono{s:AS}{n m:Nat} (h:s.Few n) (hm:n≤m):s.Few m:=⟨Nat.le_trans h.last hm,Nat.le_trans h.gets hm,Nat.le_trans h.puts hm⟩
theorem ltD_ne{a b:U8} (h:ltD a b=true):a≠b:=fun e=>by subst e;rw[ltD_irrefl] at h;cases h
theorem ltD_asymm{a b:U8} (h:ltD a b=true):ltD b a=false:=by
 cases h2:ltD b a with
 | false=>rfl
 | true=>have:=ltD_trans _ _ _ h h2;rw[ltD_irrefl] at this;cases this
theorem SortedX.nodup{X:List Blb} (h:SortedX X):(X.map (·.d)).Nodup:=by
 rw[nodup_iff_pairwise_ne,pairwise_map]
 exact h.imp fun h=>ltD_ne h
theorem usedX_perm{X Y:List Blb} (h:X.Perm Y):usedX X=usedX Y:=(h.map _).sum_nat
theorem usedX_cons (b:Blb) (X:List Blb):usedX (b::X)=b.x.length+32+usedX X:=by simp[usedX]
theorem used_mem{X:List Blb}{b:Blb} (h:b∈X):b.x.length+32≤usedX X:=by
 induction X with
 | nil=>cases h
 | cons c X ih=>
  rw[usedX_cons]
  rcases mem_cons.1 h with rfl | h
  ·omega
  ·have:=ih h;omega
theorem used_len (X:List Blb):32*X.length≤usedX X:=by
 induction X with
 | nil=>exact Nat.zero_le _
 | cons c X ih=>rw[usedX_cons,length_cons];omega
theorem findX_some{d:U8}{X:List Blb}{b:Blb} (h:findX d X=some b):b∈X∧b.d=d:=by
 have h1:=List.find?_some h
 exact⟨mem_of_find?_eq_some h,by simpa using h1⟩
theorem findX_none{d:U8}{X:List Blb} (h:findX d X=none):∀b∈X,b.d≠d:=by
 intro b hb he
 have:=List.find?_eq_none.1 h b hb
 simp[he] at this
theorem findX_mem{X:List Blb} (hn:(X.map (·.d)).Nodup){b:Blb} (hb:b∈X):findX b.d X=some b:=by
 induction X with
 | nil=>cases hb
 | cons c X ih=>
  rw[map_cons,nodup_cons] at hn
  rw[findX,List.find?_cons]
  by_cases hc:c.d=b.d
  ·rcases mem_cons.1 hb with rfl | hb
   ·simp
   ·exact absurd (hc▸mem_map_of_mem hb) hn.1
  ·simp only[hc,decide_false]
   rcases mem_cons.1 hb with rfl | hb
   ·exact absurd rfl hc
   ·exact ih hn.2 hb
theorem findX_perm{X Y:List Blb} (h:X.Perm Y) (hn:(Y.map (·.d)).Nodup) (d:U8):findX d X=findX d Y:=by
 have hn':(X.map (·.d)).Nodup:=(h.map _).nodup_iff.2 hn
 cases hx:findX d X with
 | some b=>
  have ob:=findX_some hx
  obtain⟨h1,rfl⟩:=ob
  exact(findX_mem hn (h.mem_iff.1 h1)).symm
 | none=>
  cases hy:findX d Y with
  | none=>rfl
  | some b=>
   have ob:=findX_some hy
   obtain⟨h1,h2⟩:=ob
   exact absurd h2 (findX_none hx b (h.mem_iff.2 h1))
theorem delX_none{d:U8}{X:List Blb} (h:findX d X=none):delX d X=X:=by
 rw[delX,filter_eq_self]
 intro b hb
 simpa using findX_none h b hb
theorem delX_perm{X Y:List Blb} (h:X.Perm Y) (d:U8):(delX d X).Perm (delX d Y):=h.filter _
theorem delX_some{X:List Blb} (hn:(X.map (·.d)).Nodup){d:U8}{b:Blb} (h:findX d X=some b):X.Perm (b::delX d X):=by
 induction X with
 | nil=>cases h
 | cons c X ih=>
  rw[map_cons,nodup_cons] at hn
  by_cases hc:c.d=d
  ·have:c=b:=by
    rw[findX,List.find?_cons] at h
    simpa[hc] using h
   subst this
   have hnn:findX d X=none:=by
    cases hx:findX d X with
    | none=>rfl
    | some e=>
     have ob:=findX_some hx
     obtain⟨h1,h2⟩:=ob
     exact absurd (by rw[hc,←h2];exact mem_map_of_mem h1) hn.1
   have hd:delX d (c::X)=X:=by
    rw[delX,filter_cons]
    simp only[hc,ne_eq,not_true_eq_false,decide_false,Bool.false_eq_true,if_false]
    exact delX_none hnn
   rw[hd]
  ·have hx:findX d X=some b:=by
    rw[findX,List.find?_cons] at h
    simp only[hc,decide_false] at h
    exact h
   have hd:delX d (c::X)=c::delX d X:=by
    rw[delX,filter_cons,if_pos (by simpa using hc)]
    rfl
   rw[hd]
   exact((ih hn.2 hx).cons c).trans (List.Perm.swap _ _ _)
theorem insX_perm (b:Blb):∀{X:List Blb},SortedX X→(insX b X).Perm (b::delX b.d X)
 | [],_=>List.Perm.refl _
 | c::X,h=>by
  rw[SortedX,pairwise_cons] at h
  rw[insX]
  by_cases hc:c.d=b.d
  ·rw[if_pos hc]
   have hd:delX b.d (c::X)=X:=by
    rw[delX,filter_cons]
    simp only[hc,ne_eq,not_true_eq_false,decide_false,Bool.false_eq_true,if_false]
    rw[filter_eq_self]
    intro e he
    have:=h.1 e he
    rw[hc] at this
    simpa using(ltD_ne this).symm
   rw[hd]
  ·rw[if_neg hc]
   have hd:delX b.d (c::X)=c::delX b.d X:=by
    rw[delX,filter_cons,if_pos (by simpa using hc)]
    rfl
   by_cases hl:ltD b.d c.d=true
   ·rw[if_pos hl,hd]
    have:delX b.d X=X:=by
     rw[delX,filter_eq_self]
     intro e he
     have h1:=ltD_trans _ _ _ hl (h.1 e he)
     simpa using(ltD_ne h1).symm
    rw[this]
   ·rw[if_neg hl,hd]
    exact((insX_perm b h.2).cons c).trans (List.Perm.swap _ _ _)
theorem insX_mem{b e:Blb}:∀{X:List Blb},e∈insX b X→e=b∨e∈X
 | [],h=>by rw[insX] at h;exact .inl (by simpa using h)
 | c::X,h=>by
  rw[insX] at h
  split at h
  ·rcases mem_cons.1 h with rfl | h
   ·exact .inl rfl
   ·exact .inr (by simp[h])
  ·split at h
   ·rcases mem_cons.1 h with rfl | h
    ·exact .inl rfl
    ·exact .inr h
   ·rcases mem_cons.1 h with rfl | h
    ·exact .inr (by simp)
    ·rcases insX_mem h with h | h
     ·exact .inl h
     ·exact .inr (by simp[h])
theorem insX_sorted (b:Blb):∀{X:List Blb},SortedX X→SortedX (insX b X)
 | [],_=>by simp[insX,SortedX]
 | c::X,h=>by
  have h0:=h
  rw[SortedX,pairwise_cons] at h
  rw[insX]
  by_cases hc:c.d=b.d
  ·rw[if_pos hc,SortedX,pairwise_cons]
   exact⟨fun e he=>by rw[←hc];exact h.1 e he,h.2⟩
  ·rw[if_neg hc]
   by_cases hl:ltD b.d c.d=true
   ·rw[if_pos hl,SortedX,pairwise_cons]
    refine⟨fun e he=>?_,h0⟩
    rcases mem_cons.1 he with rfl | he
    ·exact hl
    ·exact ltD_trans _ _ _ hl (h.1 e he)
   ·rw[if_neg hl,SortedX,pairwise_cons]
    refine⟨fun e he=>?_,insX_sorted b h.2⟩
    rcases insX_mem he with rfl | he
    ·cases h1:ltD c.d e.d with
     | true=>rfl
     | false=>exact absurd (ltD_tri _ _ h1 (by simpa using hl)) hc
    ·exact h.1 e he
theorem delX_sorted{X:List Blb} (h:SortedX X) (d:U8):SortedX (delX d X):=h.filter _
theorem used_ins{X:List Blb} (h:SortedX X) (b:Blb):usedX (insX b X)+(match findX b.d X with | some c=>c.x.length+32 | none=>0)=usedX X+(b.x.length+32):=by
 rw[usedX_perm (insX_perm b h),usedX_cons]
 cases hf:findX b.d X with
 | none=>rw[delX_none hf];simp only;omega
 | some c=>
  have:=usedX_perm (delX_some h.nodup hf)
  rw[usedX_cons] at this
  simp only
  omega
theorem used_del{X:List Blb} (h:SortedX X) (d:U8):usedX (delX d X)+(match findX d X with | some c=>c.x.length+32 | none=>0)=usedX X:=by
 cases hf:findX d X with
 | none=>rw[delX_none hf];rfl
 | some c=>
  have:=usedX_perm (delX_some h.nodup hf)
  rw[usedX_cons] at this
  simp only
  omega
def AS.lay (s:AS) (d x:(List UInt8)):Option AS:=if usedX (insX ⟨d,x,s.last+1⟩ s.X)≤s.cap then some { s with last:=s.last+1,X:=insX ⟨d,x,s.last+1⟩ s.X } else none
def AS.put (s:AS) (y:(List UInt8)):(List UInt8)×Nat×AS:=
 let s1:={ s with puts:=s.puts+1 }
 if 1048576<y.length then (zD,2,s1) else
 let d:=frontL y s.k
 let go:=match s1.lay d y with | some s2=>(d,0,s2) | none=>(zD,43,s1)
 match findX d s.X with
 | some b=>if b.x=y then (d,0,s1) else if frontL b.x s.k=d then (zD,44,s1) else go
 | none=>go
def AS.get (s:AS) (d:(List UInt8)):(List UInt8)×Nat:=
 match findX d s.X with
 | none=>([],41)
 | some b=>if frontL b.x s.k=d then (b.x,0) else ([],42)
def AS.got (s:AS):AS:={ s with gets:=s.gets+1 }
def AS.raw (s:AS) (d:(List UInt8)):(List UInt8):=match findX d s.X with | some b=>b.x | none=>[]
def AS.has (s:AS) (d:(List UInt8)):Bool:=(findX d s.X).isSome
def AS.whole (s:AS) (d:(List UInt8)):Bool:=match findX d s.X with | some b=>decide (frontL b.x s.k=d) | none=>false
def AS.stamp (s:AS) (d:(List UInt8)):Nat:=match findX d s.X with | some b=>b.st | none=>0
def AS.evict (s:AS) (d:(List UInt8)):AS:={ s with X:=delX d s.X }
def AS.plant (s:AS) (d y:(List UInt8)):Nat×AS:=
 if fitsL d s.k=false then (1,s) else if 1048576<y.length then (2,s) else
 match s.lay d y with | some s2=>(0,s2) | none=>(43,s)
def AS.limit (s:AS) (c:Int):Nat×AS:=if 0≤c∧c≤67108864 then (0,{ s with cap:=c.toNat }) else (1,s)
theorem AS.Ok.lay {s s':AS} (h:s.Ok){d x:U8} (hd:d.length=32) (hl:s.lay d x=some s'):s'.Ok:=by
 unfold AS.lay at hl
 split at hl
 ·rename_i hu
  obtain rfl:=(Option.some.inj hl).symm
  exact⟨h.k1,h.k2,h.cap,insX_sorted _ h.sorted,fun b hb=>by
   rcases insX_mem hb with rfl | hb
   ·exact hd
   ·exact h.len b hb,Nat.le_trans hu h.cap⟩
 ·cases hl
theorem AS.Ok.del{s:AS} (h:s.Ok) (d:U8):(s.evict d).Ok:=
 ⟨h.k1,h.k2,h.cap,delX_sorted h.sorted d,fun b hb=>h.len b ((mem_filter.1 hb).1),by
  have:=used_del h.sorted d
  have h2:=h.used
  show usedX (delX d s.X)≤_
  omega⟩
theorem AS.Ok.put{s:AS} (h:s.Ok) (y:U8):(s.put y).2.2.Ok:=by
 have h1:({ s with puts:=s.puts+1 }:AS).Ok:=⟨h.k1,h.k2,h.cap,h.sorted,h.len,h.used⟩
 have hgo:∀r:List UInt8×Nat×AS,r=(match ({ s with puts:=s.puts+1 }:AS).lay (frontL y s.k) y with | some s2=>(frontL y s.k,0,s2) | none=>(zD,43,{ s with puts:=s.puts+1 }))→r.2.2.Ok:=by
  intro r hr
  cases hl:({ s with puts:=s.puts+1 }:AS).lay (frontL y s.k) y with
  | none=>rw[hl] at hr;rw[hr];exact h1
  | some s2=>rw[hl] at hr;rw[hr];exact h1.lay (frontL_len h.k2) hl
 unfold AS.put
 simp only
 split
 ·exact h1
 ·split
  ·split
   ·exact h1
   ·split
    ·exact h1
    ·exact hgo _ rfl
  ·exact hgo _ rfl
theorem AS.Ok.plant{s:AS} (h:s.Ok){d:U8} (hd:d.length=32) (y:U8):(s.plant d y).2.Ok:=by
 unfold AS.plant
 split
 ·exact h
 ·split
  ·exact h
  ·cases hl:s.lay d y with
   | none=>exact h
   | some s2=>exact h.lay hd hl
theorem AS.Ok.limit{s:AS} (h:s.Ok) (c:Int):(s.limit c).2.Ok:=by
 unfold AS.limit
 split
 ·rename_i hc
  exact⟨h.k1,h.k2,by show c.toNat≤_;omega,h.sorted,h.len,h.used⟩
 ·exact h
theorem AS.Few.lay {s s':AS}{n:Nat} (h:s.Few n){d x:U8} (hl:s.lay d x=some s'):s'.Few (n+1):=by
 unfold AS.lay at hl
 split at hl
 ·obtain rfl:=(Option.some.inj hl).symm
  exact⟨Nat.succ_le_succ h.last,Nat.le_succ_of_le h.gets,Nat.le_succ_of_le h.puts⟩
 ·cases hl
theorem AS.Few.put{s:AS}{n:Nat} (h:s.Few n) (y:U8):(s.put y).2.2.Few (n+1):=by
 have h1:({ s with puts:=s.puts+1 }:AS).Few (n+1):=⟨Nat.le_succ_of_le h.last,Nat.le_succ_of_le h.gets,Nat.succ_le_succ h.puts⟩
 have hgo:∀r:List UInt8×Nat×AS,r=(match ({ s with puts:=s.puts+1 }:AS).lay (frontL y s.k) y with | some s2=>(frontL y s.k,0,s2) | none=>(zD,43,{ s with puts:=s.puts+1 }))→r.2.2.Few (n+1):=by
  intro r hr
  cases hl:({ s with puts:=s.puts+1 }:AS).lay (frontL y s.k) y with
  | none=>rw[hl] at hr;rw[hr];exact h1
  | some s2=>
   rw[hl] at hr;rw[hr]
   unfold AS.lay at hl
   split at hl
   ·obtain rfl:=(Option.some.inj hl).symm
    exact⟨Nat.succ_le_succ h.last,Nat.le_succ_of_le h.gets,Nat.succ_le_succ h.puts⟩
   ·cases hl
 unfold AS.put
 simp only
 split
 ·exact h1
 ·split
  ·split
   ·exact h1
   ·split
    ·exact h1
    ·exact hgo _ rfl
  ·exact hgo _ rfl
theorem AS.Few.plant{s:AS}{n:Nat} (h:s.Few n) (d y:U8):(s.plant d y).2.Few (n+1):=by
 unfold AS.plant
 split
 ·exact h.mono (Nat.le_succ _)
 ·split
  ·exact h.mono (Nat.le_succ _)
  ·cases hl:s.lay d y with
   | none=>exact h.mono (Nat.le_succ _)
   | some s2=>exact h.lay hl
theorem AS.Few.limit{s:AS}{n:Nat} (h:s.Few n) (c:Int):(s.limit c).2.Few n:=by
 unfold AS.limit
 split
 ·exact⟨h.last,h.gets,h.puts⟩
 ·exact h
theorem AS.Few.evict{s:AS}{n:Nat} (h:s.Few n) (d:U8):(s.evict d).Few n:=⟨h.last,h.gets,h.puts⟩
end Go.Gx
