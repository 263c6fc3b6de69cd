/- The filling and the digest's bytes: plain laws. No program in sight. The program's hash: New, Sum. The program's hash: Of one part. Digests: compared, cut, fitting. The document's hash: turned, round, block. The document's filling. The document's hash: Of. Digests: fitting (both sides), the document -/
import Derived.Test.YtplmnkogkfhaiaaGreatT2
import Derived.DeepKeys
import Derived.DeepKeys3
set_option linter.unusedVariables false
set_option linter.unusedSimpArgs false
set_option maxRecDepth 100000
namespace Go.Gx
theorem fillU{a l:U8}{m j:Nat} (hj:j<m) (hl:l.length=m):(a++(l.take j++List.replicate (m - j) 0)).set (a.length+j) (l.getD j 0)=a++(l.take (j+1)++List.replicate (m - (j+1)) 0):=by
 have hlt:(l.take j).length=j:=by rw[List.length_take];omega
 have e:l.take (j+1)=l.take j++[l.getD j 0]:=by
  rw[List.take_add_one,List.getD_eq_getElem?_getD,List.getElem?_eq_getElem (by omega)]
  rfl
 rw[List.set_append,if_neg (by omega),Nat.add_sub_cancel_left,List.set_append,hlt,if_neg (Nat.lt_irrefl j),Nat.sub_self,e,show m - j=(m - (j+1))+1 by omega,List.replicate_succ,List.set_cons_zero,List.append_assoc]
 rfl
def padA (n:Nat):(List UInt8):=128::List.replicate ((119 - n % 64) % 64) 0
def bufL (n i:Nat):(List UInt8):=padA n++((lenB n).take i++List.replicate (8 - i) 0)
theorem lenB_len (n:Nat):(lenB n).length=8:=by simp[lenB]
theorem lenB_get{n i:Nat} (h:i<8):(lenB n).getD i 0=UInt8.ofNat (n*8 % 18446744073709551616 / 256 ^ (7 - i)):=by
 rw[List.getD_eq_getElem?_getD,lenB,List.getElem?_map,List.getElem?_range h]
 rfl
theorem padA_len (n:Nat):(padA n).length=1+(119 - n % 64) % 64:=by simp[padA];omega
theorem bufL_len{n i:Nat} (h:i≤8):(bufL n i).length=1+(119 - n % 64) % 64+8:=by
 rw[bufL,List.length_append,padA_len,List.length_append,List.length_take,lenB_len,List.length_replicate];omega
theorem bufL_zero (n:Nat):bufL n 0=128::List.replicate ((119 - n % 64) % 64+8) 0:=by
 rw[bufL,padA,List.take_zero,List.nil_append,List.cons_append,List.replicate_append_replicate]
theorem bufL_set{n i:Nat} (h:i<8):(bufL n i).set (1+(119 - n % 64) % 64+i) (UInt8.ofNat (n*8 % 18446744073709551616 / 256 ^ (7 - i)))=bufL n (i+1):=by
 rw[←lenB_get h,←padA_len]
 exact fillU h (lenB_len n)
theorem bufL_all (n:Nat):bufL n 8=padA n++lenB n:=by
 rw[bufL,List.take_of_length_le (by rw[lenB_len];omega)];simp
theorem fillB_eq (d:U8):d++bufL d.length 8=fillB d:=by
 rw[bufL_all,padA,fillB];simp
theorem wBytes_len (x:Wd):(wBytes x).length=4:=by simp[wBytes]
theorem wBytes_get{x:Wd}{k:Nat} (h:k<4):(wBytes x).getD k 0=UInt8.ofNat (x.toNat / 256 ^ (3 - k)):=by
 rw[List.getD_eq_getElem?_getD,wBytes,List.getElem?_map,List.getElem?_range h]
 rfl
def digB (s:St8):(List UInt8):=s.l.flatMap wBytes
theorem digB_len (s:St8):(digB s).length=32:=by simp[digB,St8.l,wBytes_len]
theorem digB_get{s:St8}{i k:Nat} (hi:i<8) (hk:k<4):(digB s).getD (4*i+k) 0=UInt8.ofNat ((s.l.getD i 0).toNat / 256 ^ (3 - k)):=by
 rw[←wBytes_get hk]
 obtain rfl | rfl | rfl | rfl | rfl | rfl | rfl | rfl:i=0∨i=1∨i=2∨i=3∨i=4∨i=5∨i=6∨i=7:=by omega
 all_goals
  obtain rfl | rfl | rfl | rfl:k=0∨k=1∨k=2∨k=3:=by omega
  all_goals rfl
def digL (l:(List UInt8)) (j:Nat):(List UInt8):=l.take j++List.replicate (32 - j) 0
theorem digL_set{l:U8}{j:Nat} (hj:j<32) (hl:l.length=32):(digL l j).set j (l.getD j 0)=digL l (j+1):=by
 have:=fillU (a:=[]) hj hl
 rw[List.length_nil,Nat.zero_add] at this
 exact this
theorem digL_len{l:U8}{j:Nat} (hj:j≤32) (hl:l.length=32):(digL l j).length=32:=by rw[digL,List.length_append,List.length_take,List.length_replicate];omega
theorem digL_all{l:U8} (hl:l.length=32):digL l 32=l:=by rw[digL,List.take_of_length_le (by omega)];simp
theorem HInv.sha{d:U8}{s:St8}{bg:Bool}{rest:U8} (h:HInv (fillB d) s bg rest):digB (cur bg s)=shaL d:=by rw[h.st];rfl
theorem u8s_set (l:U8) (i:Nat) (c:UInt8):(u8s l).set i (.int .u8 c.toNat)=u8s (l.set i c):=(List.map_set ..).symm
theorem Cells1.hcs{s:St8}{bg:Bool}{rest:U8}{n:Nat}:Cells1 (hcs s bg rest n):=by
 refine .append (fun v hv=>?_) (fun v hv=>?_)
 ·have ob:=List.mem_map.1 hv
  obtain⟨x,_,he⟩:=ob
  rw[←he]
  rfl
 ·rcases List.mem_cons.1 hv with rfl | hv
  ·rfl
  ·exact(Cells1.u8s rest).append (Cells1.of_all rfl) v hv
section
variable{P:Program}{f:Slots}{w:World}{d:Option Tmp}{ty:TypeId}{pos:String}{af:Array Edge}{x y:Operand}{T T' E:TypeId}{k:IntKind}
theorem run_shlU{n:Nat}{k':IntKind} (hx:ev f x=.int .u64 n) (hy:ev f y=.int k' 3):(execOp (ev f) ⟨d,.binOp .shl T x y T',ty,pos,af,none⟩).run P w=.ok (.value (.int .u64 ((n*8 % 18446744073709551616:Nat):Int))) w:=by
 rw[run_shl hx hy (by omega)]
 have e:IntKind.u64.wrap ((n:Int)*2 ^ min (3:Int).toNat IntKind.u64.bits)=((n*8 % 18446744073709551616:Nat):Int):=by
  have e1:(2:Int) ^ min (3:Int).toNat IntKind.u64.bits=8:=by decide
  rw[e1]
  unfold IntKind.wrap
  simp only[IntKind.bits,IntKind.signed,Bool.false_and,Bool.false_eq_true,if_false]
  have:(2:Int) ^ 64=((18446744073709551616:Nat):Int):=by decide
  rw[this]
  omega
 rw[e]
end
end Go.Gx
namespace Go.Gx
open Go.Proofs List
theorem flat_rep (k:Nat) (z:Value):(List.replicate k [z]).flatten=List.replicate k z:=by
 induction k with
 | zero=>rfl
 | succ k ih=>rw[replicate_succ,flatten_cons,ih];rfl
theorem bld_hash (w:World):(Instr.build 300 #[]).run Tryz.prog w=.ok (.agg (hcs ⟨0,0,0,0,0,0,0,0⟩ false (List.replicate 64 0) 0).toArray) w:=by kernel_rfl
theorem new_spec (w:World):CP 174 #[] w fun e w'=>∃b,e=.returned (pt b)∧Step [] [(b,blk 300 (hcs ⟨0,0,0,0,0,0,0,0⟩ false (List.replicate 64 0) 0))] w w':=by
 have hs:Step [] [] w w:=Step.refl w
 refine calls (n:=3) Tryz.func174 rfl rfl rfl ?_
 refine sr<|wA<|wZ<|sr<|wV (run_build rfl (bld_hash _))<|WL.box (cs:=hcs ⟨0,0,0,0,0,0,0,0⟩ false (List.replicate 64 0) 0) rfl rfl rfl hs (fun b2 w hs=>?_)
 refine wA<|wZ<|CW.ret ?_
 refine fin_ret1 rfl ?_
 exact⟨_,rfl,hs⟩
theorem u8s_rep (n:Nat):List.replicate n (Value.int .u8 0)=u8s (List.replicate n 0):=by rw[u8s,map_replicate];rfl
attribute [local irreducible] stBlock stBlocks hcs restW lenB bufL padA shaL digB digL fillB
theorem sum_spec{b:Nat}{s:St8}{bg:Bool}{rest d:U8} (w0:World) (hb:w0.heap[b]?=some (blk 300 (hcs s bg rest d.length))) (hI:HInv d s bg rest) (hsz:d.length<2305843009213693952) :
  CP 176 #[pt b] w0 (Ret0 (.agg (u8s (shaL d)).toArray) w0):=by
 have hs:Step [] [] w0 w0:=Step.refl w0
 have hat:At w0 b 0 (hcs s bg rest d.length):=At.of_blk hb
 have hcl:=hcs_len (s:=s) (bg:=bg) (n:=d.length) hI.len
 have hn0:=hcs_n (s:=s) (bg:=bg) (n:=d.length) hI.len
 have ob:∃n,d.length=n:=⟨_,rfl⟩
 obtain⟨n,hn⟩:=ob
 rw[hn] at hat hcl hn0 hsz
 have ob:∃F,1+(119 - n % 64) % 64=F:=⟨_,rfl⟩
 obtain⟨F,hF⟩:=ob
 have hF2:F≤64:=by omega
 refine calls (n:=71) Tryz.func176 rfl rfl rfl ?_
 refine sr<|WL.alloc ty44 rfl hs (fun b2 w hs=>?_)
 refine wZ<|sr<|wm<|wn rfl<|wR ty300 rfl hcl (hat.step hs (by simp))<|WL.alloc ty300 rfl hs (fun b3 w hs=>?_)
 refine WL.storeAll ty300 rfl rfl ((hcl)) (Cells1.hcs) hs (by rfl) (fun w hs=>?_)
 refine wZ<|sr<|wm<|wn rfl<|wF 73 u300 rfl ty3 rfl<|wl ty3 rfl ((hat.step hs (by simp)).cell (j:=73) hn0)<|wV (run_remN (m:=64) rfl rfl (by decide))<|wS ((119 - n % 64:Nat):Int)<|wV (run_remN (m:=64) rfl rfl (by decide))<|wP ((1+(119 - n % 64) % 64:Nat):Int)<|wA<|wZ<|sr<|wm<|wP ((1+(119 - n % 64) % 64+8:Nat):Int) ?_
 refine WL.makeSlice (k:=(1+(119 - n % 64) % 64+8)) u76 ty5 rfl (by omega) (by omega) rfl rfl rfl hs (fun b24 w hs=>?_)
 refine wA<|wZ ?_
 rw[flat_rep,u8s_rep] at hs
 have hset0:(u8s (List.replicate (1+(119 - n % 64) % 64+8) 0)).set (0+0*1) (.int .u8 128)=u8s (bufL n 0):=by
  rw[bufL_zero,show 1+(119 - n % 64) % 64+8=((119 - n % 64) % 64+8)+1 by omega,replicate_succ];rfl
 have hbl:(u8s (List.replicate (1+(119 - n % 64) % 64+8) 0)).length=1+(119 - n % 64) % 64+8:=by rw[u8s,length_map,length_replicate]
 refine sr<|wm<|wV (run_ixSlN (i:=0) u76 ty5 rfl rfl (by omega))<|ws1 ty5 rfl rfl (rfl) hs (fun w hs=>?_)
 refine wZ ?_
 replace hs:=(congrArg (fun cs=>Step [] [(b24,blk 5 cs),(b3,blk 300 (hcs s bg rest n)),(b2,blk 44 (List.replicate 32 (Value.int .u8 0)))] w0 w) hset0).mp hs
 refine cq<|sr<|wm<|wZ<|cB<|CW.loop (fun m f w'=>∃i,i≤8∧m=8 - i∧Step [] [(b24,blk 5 (u8s (bufL n i))),(b3,blk 300 (hcs s bg rest n)),(b2,blk 44 (List.replicate 32 (Value.int .u8 0)))] w0 w'∧Holds f [(0,pt b),(2,pt b2),(3,pt b3),(4,.int .i64 ((1+(119 - n % 64) % 64):Nat)),(5,.slice (some ⟨b24,0,none⟩) ((1+(119 - n % 64) % 64)+8) ((1+(119 - n % 64) % 64)+8)),(27,.int .i64 (i:Nat))]) (m:=8) ?_ ?_
 ·exact⟨0,by omega,rfl,hs,rfl,rfl,rfl,rfl,rfl,rfl,trivial⟩
 ·clear hs
  rintro m f w ⟨i,hi,rfl,hs,hf⟩
  have ob:=hf.chain
  obtain⟨g,rfl⟩:=ob
  refine sr<|wV (run_lss rfl rfl)<|wZ<|cq<|CW.condP rfl (fun h=>?_) (fun h=>?_)
  ·have hlt:i<8:=by omega
   have hset:(u8s (bufL n i)).set (0+((1+(119 - n % 64) % 64)+i)*1) (.int .u8 (UInt8.ofNat (n*8 % 18446744073709551616 / 256 ^ (7 - i))).toNat)=u8s (bufL n (i+1)):=by
    rw[Nat.zero_add,Nat.mul_one,u8s_set,bufL_set hlt]
   have hbl:(u8s (bufL n i)).length=(1+(119 - n % 64) % 64)+8:=by rw[u8s,length_map,bufL_len hi]
   refine ck<|cq<|cB<|sr<|wm<|wA<|wZ<|cr<|wm<|wm<|wm<|wP (((1+(119 - n % 64) % 64)+i:Nat):Int)<|wm<|wn rfl<|wF 73 u300 rfl ty3 rfl<|wl ty3 rfl ((hat.step hs (by simp)).cell (j:=73) hn0)<|wV (run_convU64 u3 u240 rfl (by omega))<|wV (run_shlU rfl rfl)<|wm<|wS ((7 - i:Nat):Int)<|wV (run_mul (c:=((8*(7 - i):Nat):Int)) rfl rfl (by omega) (by omega))<|wV (run_shrN (j:=7 - i) rfl rfl (by simp only[IntKind.bits];omega))<|wV (run_convU8 u240 u5 rfl)<|wI u76 ty5 rfl rfl ?_
   refine ws1 ty5 rfl rfl (rfl) hs (fun w hs=>?_)
   refine wZ ?_
   replace hs:=(congrArg (fun cs=>Step [] [(b24,blk 5 cs),(b3,blk 300 (hcs s bg rest n)),(b2,blk 44 (List.replicate 32 (Value.int .u8 0)))] w0 w) hset).mp hs
   refine cr<|wP ((i+1:Nat):Int)<|wm<|wZ<|(show _∧_ from⟨rfl,_,?_,i+1,by omega,rfl,hs,rfl,rfl,rfl,rfl,rfl,rfl,trivial⟩)
   omega
  ·obtain rfl:i=8:=by omega
   subst hn
   have hbl:(bufL d.length 8).length=1+(119 - d.length % 64) % 64+8:=bufL_len (by decide)
   have hsl:Sl w 1 (.slice (some ⟨b24,0,none⟩) (1+(119 - d.length % 64) % 64+8) (1+(119 - d.length % 64) % 64+8)) (bufL d.length 8).length (u8s (bufL d.length 8)):=by
    rw[hbl];exact Sl.mk (by rw[u8s,length_map,hbl,Nat.mul_one]) hs.a0
   have hne:b24∉[b3]:=fun hm=>by
    have h1:=hs.nodup
    simp at h1 hm
    exact h1.1.1 hm
   refine CW.exit<|sr<|wm<|wE rfl (run_call en175 rfl rfl) (write_spec (d:=d) (x:=bufL d.length 8) _ hs.tail.hd hI hsl (Nat.le_refl _) (.inr hne) (by rw[hbl];omega)) ?_
   rintro e w ⟨rfl,s',bg',rest',hI',hq⟩
   refine⟨_,rfl,?_⟩
   replace hs:=Step.call (L1:=[_]) (L:=[_,_]) hs.swap hq
   refine wZ ?_
   rw[fillB_eq] at hI'
   have hsha:=hI'.sha
   have ob:∃S,cur bg' s'=S:=⟨_,rfl⟩
   obtain⟨S,hS⟩:=ob
   rw[hS] at hsha
   have ob:∃G,digB S=G:=⟨_,rfl⟩
   obtain⟨G,hG⟩:=ob
   rw[hG] at hsha
   have hGl:G.length=32:=by rw[←hG];exact digB_len S
   refine sr<|WL.alloc ty44 rfl hs (fun b7 w hs=>?_)
   refine wZ<|cq<|sr<|wE rfl (run_call en194 rfl rfl) (state_spec _ hs.tail.hd) ?_
   rintro e w ⟨rfl,hq⟩
   refine⟨_,rfl,?_⟩
   replace hs:=hs.callE hq
   refine wm<|wZ ?_
   rw[hS]
   replace hs:Step [] [(b7,blk 44 (u8s (digL G (4*0)))),(b2,blk 44 (List.replicate 32 (Value.int .u8 0)))] w0 w:=by
    have e:u8s (digL G (4*0))=List.replicate 32 (Value.int .u8 0):=by unfold digL;rw[u8s_rep];rfl
    rw[e]
    exact Step.dropR (L1:=[_,_]) (hs.front [_,_,_]).swap
   refine cB<|CW.loop (fun m f w'=>∃i,i≤8∧m=8 - i∧Step [] [(b7,blk 44 (u8s (digL G (4*i)))),(b2,blk 44 (List.replicate 32 (Value.int .u8 0)))] w0 w'∧Holds f [(2,pt b2),(7,pt b7),(49,.agg (wvs S.l).toArray),(50,.int .i64 (i:Nat))]) (m:=8) ?_ ?_
   ·exact⟨0,by omega,rfl,hs,rfl,rfl,rfl,rfl,trivial⟩
   ·clear hs
    rintro m f w ⟨i,hi,rfl,hs,hf⟩
    have ob:=hf.chain
    obtain⟨g,rfl⟩:=ob
    refine sr<|wV (run_lss rfl rfl)<|wZ<|cq<|CW.condP rfl (fun h=>?_) (fun h=>?_)
    ·have hlt:i<8:=by omega
     have hS1:(wvs S.l)[i]?=some (wv (S.l.getD i 0)):=St8_get hlt
     have ob:∃X,S.l.getD i 0=X:=⟨_,rfl⟩
     obtain⟨X,hX⟩:=ob
     rw[hX] at hS1
     refine ck<|cq<|cB<|sr<|wm<|wV (run_ixAgg u291 ty281 rfl rfl (by omega) (hS1))<|wA<|wA<|wZ<|sr<|wm<|wZ<|cB ?_
     refine CW.loop (fun m f w'=>∃k,k≤4∧m=4 - k∧Step [] [(b7,blk 44 (u8s (digL G (4*i+k)))),(b2,blk 44 (List.replicate 32 (Value.int .u8 0)))] w0 w'∧Holds f [(2,pt b2),(7,pt b7),(8,.int .i64 (i:Nat)),(9,wv X),(49,.agg (wvs S.l).toArray),(50,.int .i64 (i:Nat)),(54,.int .i64 (k:Nat))]) (m:=4) ?_ ?_
     ·exact⟨0,by omega,rfl,hs,rfl,rfl,rfl,rfl,rfl,rfl,rfl,trivial⟩
     ·clear hs
      rintro m f w ⟨k,hk,rfl,hs,hf⟩
      have ob:=hf.chain
      obtain⟨g,rfl⟩:=ob
      refine sr<|wV (run_lss rfl rfl)<|wZ<|cq<|CW.condP rfl (fun h2=>?_) (fun h2=>?_)
      ·have hlk:k<4:=by omega
       have hset:(u8s (digL G (4*i+k))).set (0+(4*i+k)*1) (.int .u8 (UInt8.ofNat (X.toNat / 256 ^ (3 - k))).toNat)=u8s (digL G (4*i+(k+1))):=by
        rw[Nat.zero_add,Nat.mul_one,u8s_set,←hX,←digB_get hlt hlk,hG,digL_set (by omega) hGl,Nat.add_assoc]
       have hdl:(u8s (digL G (4*i+k))).length=32:=by rw[u8s,length_map,digL_len (by omega) hGl]
       refine ck<|cq<|cB<|sr<|wm<|wA<|wZ<|cr<|wm<|wV (run_mul (c:=((4*i:Nat):Int)) rfl rfl (by omega) (by omega))<|wm<|wP ((4*i+k:Nat):Int)<|wm<|wm<|wS ((3 - k:Nat):Int)<|wV (run_mul (c:=((8*(3 - k):Nat):Int)) rfl rfl (by omega) (by omega))<|wV (run_shrN (j:=3 - k) rfl rfl (by simp only[IntKind.bits];omega))<|wV (run_convU8 u281 u5 rfl)<|wV (run_ixArrN u44 ty5 rfl rfl (by omega)) ?_
       refine ws1 ty5 rfl rfl (rfl) hs (fun w hs=>?_)
       refine wZ ?_
       replace hs:=(congrArg (fun cs=>Step [] [(b7,blk 44 cs),(b2,blk 44 (List.replicate 32 (Value.int .u8 0)))] w0 w) hset).mp hs
       refine cr<|wP ((k+1:Nat):Int)<|wm<|wZ<|(show _∧_ from⟨rfl,_,?_,k+1,by omega,rfl,hs,rfl,rfl,rfl,rfl,rfl,rfl,rfl,trivial⟩)
       omega
      ·obtain rfl:k=4:=by omega
       refine CW.exit<|cr<|wP ((i+1:Nat):Int)<|wm<|wZ<|(show _∧_ from⟨rfl,_,?_,i+1,by omega,rfl,hs,rfl,rfl,rfl,rfl,trivial⟩)
       omega
    ·obtain rfl:i=8:=by omega
     rw[show 4*8=32 from rfl,digL_all hGl,hsha] at hs
     have hfl:(u8s (shaL d)).length=32:=by rw[←hsha,u8s,length_map,hGl]
     refine CW.exit<|sr<|wR ty44 rfl hfl hs.a0<|WL.storeAll_1 ty44 rfl rfl ((hfl)) (Cells1.u8s _) hs (by rfl) (fun w hs=>?_)
     refine wZ<|CW.ret ?_
     refine fin_cell1 rfl rfl (run_loadVarN ty44 (by assumption) hs.a1) ?_
     exact⟨rfl,hs.clear⟩
end Go.Gx
namespace Go.Gx
open Go.Proofs List
theorem shaL_len (b:U8):(shaL b).length=32:=digB_len _
attribute [local irreducible] stBlock stBlocks hcs restW shaL fillB
theorem of_spec{v:Value}{x:U8}{bp off c:Nat} (w0:World) (hp:At w0 bp off [v]) (hv:Sl w0 1 v x.length (u8s x)) (hcap:Room v) (hsz:x.length<2305843009213693952) :
  CP 135 #[.slice (some ⟨bp,off,none⟩) 1 c] w0 (Ret0 (.agg (u8s (shaL x)).toArray) w0):=by
 have hs:Step [] [] w0 w0:=Step.refl w0
 refine calls (n:=19) Tryz.func135 rfl rfl rfl ?_
 refine sr<|WL.alloc ty44 rfl hs (fun b2 w hs=>?_)
 refine wZ<|sr<|wE rfl (run_call en174 rfl rfl) (new_spec _) ?_
 rintro e w ⟨b6,rfl,hq⟩
 refine⟨_,rfl,?_⟩
 replace hs:Step [] [(b6,blk 300 (hcs ⟨0,0,0,0,0,0,0,0⟩ false (List.replicate 64 0) 0)),(b2,blk 44 (List.replicate 32 (Value.int .u8 0)))] w0 _:=Step.call0 hs hq
 refine wA<|wZ<|cq<|sr<|wm<|wL u24 rfl<|wm<|wZ ?_
 have ho:x=[]∨Outside v [b6]:=by
  rcases Outside.newer (S:=[b6]) hv hs (fun k hk=>by simp at hk;subst hk;simp) with h | h
  ·left;simpa[u8s] using h
  ·exact .inr h
 refine cB<|CW.loop (fun m f w'=>∃(i:Nat) (d:U8) (s:St8) (bg:Bool) (rest:U8),i≤1∧m=1 - i∧(i=0→d=[])∧(i=1→d=x)∧HInv d s bg rest∧Step [] [(b6,blk 300 (hcs s bg rest d.length)),(b2,blk 44 (List.replicate 32 (Value.int .u8 0)))] w0 w'∧Holds f [(2,pt b2),(3,pt b6),(7,.slice (some ⟨bp,off,none⟩) 1 c),(8,.int .i64 (1:Nat)),(9,.int .i64 (i:Nat))]) (m:=1) ?_ ?_
 ·exact⟨0,[],_,_,_,by omega,rfl,fun _=>rfl,fun h=>absurd h (by decide),HInv.zero,hs,rfl,rfl,rfl,rfl,rfl,trivial⟩
 ·clear hs
  rintro m f w ⟨i,d,s,bg,rest,hi,rfl,h0,h1,hI,hs,hf⟩
  have ob:=hf.chain
  obtain⟨g,rfl⟩:=ob
  refine sr<|wV (run_lss rfl rfl)<|wZ<|cq<|CW.condP rfl (fun h=>?_) (fun h=>?_)
  ·obtain rfl:i=0:=by omega
   obtain rfl:d=[]:=h0 rfl
   refine ck<|cq<|cB<|sr<|wI u24 ty76 rfl rfl<|wl ty76 rfl ((hp.step hs (by simp)).cell (j:=0) rfl)<|wA<|wZ<|cr<|wm<|wm<|wE rfl (run_call en175 rfl rfl) (write_spec (d:=[]) (x:=x) _ hs.hd hI (hv.step0 hs) hcap ho (by simp;omega)) ?_
   rintro e w ⟨rfl,s',bg',rest',hI',hq⟩
   refine⟨_,rfl,?_⟩
   replace hs:=Step.call (L1:=[_]) (L:=[_]) hs hq
   refine wZ<|cr<|wP ((0+1:Nat):Int)<|wm<|wZ<|(show _∧_ from⟨rfl,_,?_,0+1,_,_,_,_,by omega,rfl,fun h=>absurd h (by decide),fun _=>nil_append _,hI',hs,rfl,rfl,rfl,rfl,rfl,trivial⟩)
   omega
  ·obtain rfl:i=1:=by omega
   obtain rfl:=h1 rfl
   have hl:(u8s (shaL d)).length=32:=by rw[u8s,length_map,shaL_len]
   refine CW.exit<|sr<|wm<|wE rfl (run_call en176 rfl rfl) (sum_spec _ hs.hd hI hsz) ?_
   rintro e w ⟨rfl,hq⟩
   refine⟨_,rfl,?_⟩
   replace hs:=hs.callE hq
   refine WL.storeAll_1 ty44 rfl rfl ((hl)) (Cells1.u8s _) hs (by rfl) (fun w hs=>?_)
   refine wZ<|CW.ret ?_
   refine fin_cell1 rfl rfl (run_loadVarN ty44 (by assumption) hs.a1) ?_
   exact⟨rfl,hs.clear⟩
end Go.Gx
namespace Go.Gx
open Go.Proofs List
theorem mapM_some' {α β:Type}{f:α→Option β}{g:α→β}:∀(l:List α),(∀x∈l,f x=some (g x))→l.mapM f=some (l.map g)
 | [],_=>rfl
 | x::l,h=>by
  rw[mapM_cons,h x (by simp),mapM_some' l (fun y hy=>h y (by simp[hy]))]
  rfl
theorem Ty.cellsOf{P:Program}{T:TypeId}{agg:Bool}{n b:Nat}{zs:List Value} (h:Ty P T agg n b zs):P.cellsOf T=n:=by
 have ob:=h.info
 obtain⟨i,z,hi,hs,_⟩:=ob
 simp[Program.cellsOf,hi,hs]
def u8l (l:(List UInt8)):List Lit:=l.map fun c=>.int .u8 c.toNat
theorem u8l_inj{a b:U8} (h:u8l a=u8l b):a=b:=by
 refine(map_inj_right (f:=fun(c:UInt8)=>Lit.int .u8 c.toNat) ?_).1 h
 intro x y hxy
 injection hxy with _ h1
 have:x.toNat=y.toNat:=by omega
 exact UInt8.toNat_inj.1 this
theorem flatten_single{α β:Type} (l:List α) (g:α→β):(l.map fun x=>[g x]).flatten=l.map g:=by
 induction l with
 | nil=>rfl
 | cons a l ih=>simp[ih]
theorem lits_u8{P:Program}{T E:TypeId}{n d bT bE:Nat}{zT zE:List Value}{l:U8} (hT:P.underlying T=some (.array n E)) (hE:P.underlying E=some (.int .u8)) (tT:Ty P T true n bT zT) (tE:Ty P E false 1 bE zE) (hl:l.length=n) :
  P.keyLits (d+2) T (u8s l)=some (u8l l):=by
 have hone:∀c:UInt8,P.keyLits (d+1) E [.int .u8 c.toNat]=some [.int .u8 c.toNat]:=fun c=>by
  have hw:(Lit.int .u8 c.toNat).wf=true:=by
   have:=c.toNat_lt
   simp only[Lit.wf,IntKind.min,IntKind.max,IntKind.signed,IntKind.bits,Bool.and_eq_true,decide_eq_true_eq]
   simp
   omega
  unfold Program.keyLits
  simp[hE,hw]
 have hm:(List.range n).mapM (fun i=>P.keyLits (d+1) E (((u8s l).drop (i*P.cellsOf E)).take (P.cellsOf E)))=some ((List.range n).map fun i=>[Lit.int .u8 (l.getD i 0).toNat]):=by
  refine mapM_some' _ fun i hi=>?_
  have hi':i<l.length:=by rw[hl];exact mem_range.1 hi
  rw[tE.cellsOf,Nat.mul_one,←hone]
  congr 1
  rw[drop_eq_getElem_cons (by simpa[u8s] using hi')]
  simp[u8s,getElem?_eq_getElem hi']
 have hlen:(u8s l).length=P.cellsOf T:=by rw[tT.cellsOf,←hl];simp[u8s]
 unfold Program.keyLits
 simp only[hT,hlen,if_true,hm,Option.map_some,Option.some.injEq]
 rw[flatten_single (List.range n) (fun i=>Lit.int .u8 (l.getD i 0).toNat)]
 apply ext_getElem?
 intro i
 by_cases hi:i<n
 ·simp[u8l,hi,getElem?_eq_getElem (show i<l.length by omega)]
 ·simp[u8l,hi,getElem?_eq_none (show l.length≤i by omega)]
section
variable{P:Program}{f:Slots}{w:World}{d:Option Tmp}{ty:TypeId}{pos:String}{af:Array Edge}{x y:Operand}{T T':TypeId}
theorem run_equal_agg{xs ys:List Value}{lx ly:List Lit}{D:Nat}{p:Prop} [Decidable p] (hp:lx=ly↔p) (hk:P.keyTypeAt 5 T=true) (hfx:Value.formed P T (.agg xs.toArray)=true) (hfy:Value.formed P T (.agg ys.toArray)=true) (hx:P.keyLits D T xs=some lx) (hy:P.keyLits D T ys=some ly) :
  (Op.equalIn 10000 T (.agg xs.toArray) (.agg ys.toArray)).run P w=.ok (decide p) w:=by
 have ob:=run_equalIn_deep 9995 5 T hk w D D (.agg xs.toArray) (.agg ys.toArray) lx ly hfx hfy (by simpa[Value.cells] using hx) (by simpa[Value.cells] using hy)
 obtain⟨r,hr,hiff⟩:=ob
 have e:r=decide p:=by
  by_cases h:p
  ·simp[h,hiff.2 (hp.2 h)]
  ·simp[h]
   cases r
   ·rfl
   ·exact absurd (hp.1 (hiff.1 rfl)) h
 rw[←e]
 exact hr
theorem run_eqlAgg{xs ys:List Value}{lx ly:List Lit}{D:Nat}{p:Prop} [Decidable p] (hp:lx=ly↔p) (hk:P.keyTypeAt 5 T=true) (hfx:Value.formed P T (.agg xs.toArray)=true) (hfy:Value.formed P T (.agg ys.toArray)=true) (hg:P.eqGuardType P.depth T=false) (hx:ev f x=.agg xs.toArray) (hy:ev f y=.agg ys.toArray) (hlx:P.keyLits D T xs=some lx) (hly:P.keyLits D T ys=some ly) :
  (execOp (ev f) ⟨d,.binOp .eql T x y T',ty,pos,af,none⟩).run P w=.ok (.value (.bool (decide p))) w:=by
 simp[execOp,hx,hy,run_eqGuard_agg w .eql T x y _ _ hg,run_eql_struct,run_equal_agg hp hk hfx hfy hlx hly]
theorem run_neqAgg{xs ys:List Value}{lx ly:List Lit}{D:Nat}{p:Prop} [Decidable p] (hp:lx=ly↔p) (hk:P.keyTypeAt 5 T=true) (hfx:Value.formed P T (.agg xs.toArray)=true) (hfy:Value.formed P T (.agg ys.toArray)=true) (hg:P.eqGuardType P.depth T=false) (hx:ev f x=.agg xs.toArray) (hy:ev f y=.agg ys.toArray) (hlx:P.keyLits D T xs=some lx) (hly:P.keyLits D T ys=some ly) :
  (execOp (ev f) ⟨d,.binOp .neq T x y T',ty,pos,af,none⟩).run P w=.ok (.value (.bool (decide (¬p)))) w:=by
 have e:(!decide p)=decide (¬p):=by by_cases h:p <;> simp[h]
 simp only[execOp,hx,hy,Sem.run_bind,run_eqGuard_agg w .neq T x y _ _ hg,Result.andThen_ok,run_neq_struct,run_equal_agg hp hk hfx hfy hlx hly,Sem.run_pure,e]
end
section
variable{P:Program}{ops:Array Oper}{n:Nat}{rest:List Oper}{f:Slots}{ds:List Deferred}{w w0:World}{S:List Nat}{L:OL}{Q:Post}{ty:TypeId}{pos:String}{af:Array Edge}{x:Operand}{T E:TypeId}
theorem WL.clearA{agg:Bool}{sz bytes k cap b off:Nat}{zs cs:List Value}{T2:TypeId} (ht:P.underlying T=some (.slice E)) (hE:Ty P E agg sz bytes zs) (hzl:zs.length=sz)
  (hx:ev f x=.slice (some ⟨b,off,none⟩) k cap) (hs:Step S ((b,blk T2 cs)::L) w0 w) (hlen:off+k*sz≤cs.length) (hz1:(zs.all fun v=>v.oneCell')=true)
  (h:∀w',Step S ((b,blk T2 (splice cs off (List.replicate k zs).flatten))::L) w0 w'→WL P ops Q n rest f ds w') :
  WL P ops Q n (⟨none,.call { callee:=.builtin .clear,args:=#[x],argTypes:=#[T] },ty,pos,af,none⟩::rest) f ds w:=by
 match k,hx,hlen,h with
 | k'+1,hx,hlen,h=>exact WL.clear ht hE hzl hx hs (Nat.succ_pos k') hlen hz1 h
 | 0,hx,hlen,h=>
  have hr:(Builtin.clear_ #[T] ty #[.slice (some ⟨b,off,none⟩) 0 cap]).run P w=.ok (.tuple #[]) w:=by
   simp only[Builtin.clear_,Sem.run_bind,getElem?_toArray,getElem?_cons_zero,run_underlying ht,Result.andThen_ok]
   rfl
  refine WL.drop (v:=.tuple #[]) ?_ (h w (by rw[replicate_zero,flatten_nil,splice_nil];exact hs))
  simp only[execOp,resolve,invoke,builtin,Sem.run_bind,Sem.run_pure,Result.andThen_ok,map_toArray,map_cons,map_nil,hx,hr]
end
theorem dig_key:Tryz.prog.keyTypeAt 5 44=true:=by kernel_rfl
theorem dig_guard:Tryz.prog.eqGuardType Tryz.prog.depth 44=false:=by kernel_rfl
theorem dig_formed{d:U8} (h:d.length=32):Value.formed Tryz.prog 44 (.agg (u8s d).toArray)=true:=by
 simp only[Value.formed,u44,ty44.cellsOf]
 simp[u8s,h]
theorem dig_lits{d:U8} (h:d.length=32):Tryz.prog.keyLits 4 44 (u8s d)=some (u8l d):=lits_u8 (d:=2) u44 u5 ty44 ty5 h
theorem u8l_iff{a b:U8}:u8l a=u8l b↔a=b:=⟨u8l_inj,fun h=>by rw[h]⟩
section
variable{f:Slots}{w:World}{d:Option Tmp}{ty:TypeId}{pos:String}{af:Array Edge}{x y:Operand}{T':TypeId}
theorem run_eqDig{a b:U8} (ha:a.length=32) (hb:b.length=32) (hx:ev f x=.agg (u8s a).toArray) (hy:ev f y=.agg (u8s b).toArray) :
  (execOp (ev f) ⟨d,.binOp .eql 44 x y T',ty,pos,af,none⟩).run Tryz.prog w=.ok (.value (.bool (decide (a=b)))) w:=
 run_eqlAgg u8l_iff dig_key (dig_formed ha) (dig_formed hb) dig_guard hx hy (dig_lits ha) (dig_lits hb)
end
def cutD (d:(List UInt8)) (k:Nat):(List UInt8):=d.take k++List.replicate (32 - k) 0
def zD:(List UInt8):=List.replicate 32 0
theorem cutD_len{d:U8}{k:Nat} (h:d.length=32) (hk:k≤32):(cutD d k).length=32:=by simp[cutD];omega
theorem splice_cut{d:U8}{k o:Nat} (h:d.length=32) (hk:k≤32) (ho:k=32∨o=k):splice (u8s d) o (List.replicate (32 - k) [Value.int .u8 0]).flatten=u8s (cutD d k):=by
 rw[flat_rep]
 rcases ho with rfl | rfl
 ·rw[Nat.sub_self,replicate_zero,splice_nil,cutD,take_of_length_le (by omega)];simp
 ·rw[splice,drop_of_length_le (by simp[u8s];omega),append_nil,cutD,u8s,u8s,map_append,map_take,map_replicate];rfl
theorem bld_dig (w:World):(Instr.build 44 #[]).run Tryz.prog w=.ok (.agg (u8s zD).toArray) w:=by kernel_rfl
theorem cut_bad{d:U8}{k:Int} (hd:d.length=32) (hk:k<1∨32<k) (w:World):CP 105 #[.agg (u8s d).toArray,.int .i64 k] w (Ret0 (.tuple #[.agg (u8s zD).toArray,.int .i64 3]) w):=by
 have hs:Step [] [] w w:=Step.refl w
 by_cases h1:k<1
 ·refine calls (n:=16) Tryz.func105 rfl rfl rfl ?_
  refine sr<|WL.box (cs:=u8s d) rfl rfl rfl hs (fun b2 w hs=>?_)
  refine WL.alloc ty44 rfl hs (fun b4 w hs=>?_)
  refine wA<|wZ<|cq<|sr<|wm<|wV (run_bT (run_lss rfl rfl) (by exact h1))<|wm<|wz<|wz<|pT<|wZ<|CW.cond rfl (fun h=>?_) (fun h=>?_)
  ·refine sr<|wV (run_build rfl (bld_dig _))<|WL.storeAll ty44 rfl rfl ((by rfl)) (Cells1.u8s _) hs (by rfl) (fun w hs=>?_)
   refine wA<|wZ<|CW.ret ?_
   refine fin_cellTmp rfl rfl (run_loadVarN ty44 (by rfl) hs.a0) ?_
   exact⟨rfl,hs.clear⟩
  ·cases h
 ·have h2:32<k:=hk.resolve_left h1
  refine calls (n:=16) Tryz.func105 rfl rfl rfl ?_
  refine sr<|WL.box (cs:=u8s d) rfl rfl rfl hs (fun b2 w hs=>?_)
  refine WL.alloc ty44 rfl hs (fun b4 w hs=>?_)
  refine wA<|wZ<|cq<|sr<|wm<|wV (run_bF (run_lss rfl rfl) (by exact h1))<|wm<|wy<|wm<|wy<|wV (run_bT (run_gtr rfl rfl) (by exact h2))<|pF<|wZ ?_
  refine CW.cond rfl (fun h=>?_) (fun h=>?_)
  ·refine sr<|wV (run_build rfl (bld_dig _))<|WL.storeAll ty44 rfl rfl ((by rfl)) (Cells1.u8s _) hs (by rfl) (fun w hs=>?_)
   refine wA<|wZ<|CW.ret ?_
   refine fin_cellTmp rfl rfl (run_loadVarN ty44 (by rfl) hs.a0) ?_
   exact⟨rfl,hs.clear⟩
  ·cases h
theorem cut_ok{d:U8}{k:Nat} (hd:d.length=32) (hk1:1≤k) (hk:k≤32) (w:World):CP 105 #[.agg (u8s d).toArray,.int .i64 k] w (Ret0 (.tuple #[.agg (u8s (cutD d k)).toArray,.int .i64 0]) w):=by
 have hs:Step [] [] w w:=Step.refl w
 have hl:(u8s d).length=32:=by rw[u8s,length_map,hd]
 have hl2:(u8s (cutD d k)).length=32:=by rw[u8s,length_map,cutD_len hd hk]
 refine calls (n:=16) Tryz.func105 rfl rfl rfl ?_
 refine sr<|WL.box (cs:=u8s d) rfl rfl rfl hs (fun b2 w hs=>?_)
 refine WL.alloc ty44 rfl hs (fun b4 w hs=>?_)
 refine wA<|wZ<|cq<|sr<|wm<|lF<|wm<|wy<|wm<|wy<|xF<|pF<|wZ ?_
 refine CW.cond rfl (fun h=>?_) (fun h=>?_)
 ·cases h
 ·obtain⟨o,ho1,ho2,ho3⟩:∃o,cutSl 1 b2 0 k 32 32=.slice (some ⟨b2,o,none⟩) (32 - k) (32 - k)∧(k=32∨o=k)∧o≤k:=by
   refine⟨if 32=k then 0 else 0+k*1,rfl,?_,?_⟩ <;> split <;> omega
  replace hs:=hs.swap
  refine ck<|sr<|wm<|wV (run_sliceArrE (lo:=k) (hi:=32) (m:=32) u44 ty5 rfl rfl rfl (by omega) (by omega) ho1)<|WL.clearA u76 ty5 rfl rfl hs (by omega) rfl (fun w hs=>?_)
  refine wZ ?_
  rw[splice_cut hd hk ho2] at hs
  refine sr<|wR ty44 rfl hl2 hs.a0<|WL.storeAll_1 ty44 rfl rfl ((hl2)) (Cells1.u8s _) hs (by rfl) (fun w hs=>?_)
  refine wA<|wZ<|CW.ret ?_
  refine fin_cellTmp rfl rfl (run_loadVarN ty44 (by assumption) hs.a1) ?_
  exact⟨rfl,hs.clear⟩
theorem turned_spec{a:Wd}{n:Nat} (h1:1≤n) (h2:n≤31) (w:World):CP 196 #[wv a,.int .i64 n] w (Ret0 (wv (rotr a n)) w):=by
 have hs:Step [] [] w w:=Step.refl w
 have e:rotr a n=a >>> n ||| a <<< (32 - n):=by rw[rotr,BitVec.or_comm]
 rw[e]
 refine calls (n:=13) Tryz.func196 rfl rfl rfl ?_
 refine sr<|wA<|wZ<|cq<|CW.quiet mixedP (by kernel_rfl) hs ?_
 refine qm<|qm<|qV (fun w hs=>run_shr32 (n:=n) (by omega) rfl rfl)<|qm<|qm<|qV (fun w hs=>run_sub (c:=((32 - n:Nat):Int)) rfl rfl (by omega) (by omega))<|qV (fun w hs=>run_shl32 (n:=32 - n) (by omega) rfl rfl)<|qV (fun w hs=>run_or32 rfl rfl)<|qA<|QL.nil (fun w hs=>?_)
 refine CW.ret ?_
 refine fin_ret1 rfl ?_
 exact⟨rfl,hs⟩
theorem round_spec{t:Nat} (ht:t<64) (w:World):CP 197 #[.int .i64 t] w (Ret0 (wv (kL.getD t 0)) w):=by
 have hs:Step [] [] w w:=Step.refl w
 have hk:(wvs kL)[0+t*1]?=some (wv (kL.getD t 0)):=by rw[Nat.mul_one,Nat.zero_add];exact wvs_get (by rw[kL_len];exact ht)
 refine calls (n:=8) Tryz.func197 rfl rfl rfl ?_
 refine sr<|wA<|wZ<|sr<|wV (run_build rfl (bld_rounds _))<|WL.alloc ty302 rfl hs (fun b3 w hs=>?_)
 refine WL.storeAll ty302 rfl rfl ((wvs_kL)) (Cells1.wvs _) hs (by rfl) (fun w hs=>?_)
 refine wZ<|sr<|wm<|wV (run_ixArrN u302 ty281 rfl rfl (by omega))<|wl ty281 rfl (hs.c0 hk)<|wA<|wZ<|CW.ret ?_
 refine fin_ret1 rfl ?_
 exact⟨rfl,hs.clear⟩
theorem wordB_eq (b:U8) (t:Nat):byW (b.getD (4*t) 0) <<< 24 ||| byW (b.getD (4*t+1) 0) <<< 16 ||| byW (b.getD (4*t+2) 0) <<< 8 ||| byW (b.getD (4*t+3) 0)=wordB b t:=rfl
theorem bld8 (a b c d e f g h:Wd) (w:World):(Instr.build 291 (toArray [(0,wv a),(1,wv b),(2,wv c),(3,wv d),(4,wv e),(5,wv f),(6,wv g),(7,wv h)])).run Tryz.prog w=.ok (.agg (wvs (St8.mk a b c d e f g h).l).toArray) w:=by kernel_rfl
theorem mixW_set0{s r:St8}{i:Nat} (hi:i<8):(wvs (mixW s s r i)).set (0+i*1) (wv (s.l.getD i 0+r.l.getD i 0))=wvs (mixW s s r (i+1)):=by
 have:=mixW_set (s:=s) (S:=s) (r:=r) (l:=[]) hi
 simpa using this
theorem mixW_get{s r:St8}{i:Nat} (hi:i<8):(wvs (mixW s s r i))[0+i*1]?=some (wv (s.l.getD i 0)):=by
 match i,hi with
 | 0,_=>rfl
 | 1,_=>rfl
 | 2,_=>rfl
 | 3,_=>rfl
 | 4,_=>rfl
 | 5,_=>rfl
 | 6,_=>rfl
 | 7,_=>rfl
theorem mixW_zero{s r:St8}:wvs (mixW s s r 0)=wvs s.l:=rfl
theorem mixW_all{s r:St8}:wvs (mixW s s r 8)=wvs (stAdd s r).l:=rfl
attribute [local irreducible] kL sched schedA schedM accW wordB wNext stRounds stBlock mixW
theorem refBlock_spec{s:St8}{y:U8}{bx off c:Nat} (w0:World) (hat:At w0 bx off (u8s y)) (hy:y.length=64) :
  CP 186 #[.agg (wvs s.l).toArray,.slice (some ⟨bx,off,none⟩) 64 c] w0 (Ret0 (.agg (wvs (stBlock s y).l).toArray) w0):=by
 have hs:Step [] [] w0 w0:=Step.refl w0
 have hbyte:∀{j:Nat}{L:OL}{w:World},j<64→Step [] L w0 w→w.cell? ⟨bx,off+j*1,none⟩=some (.int .u8 (y.getD j 0).toNat):=fun {j L w} hj h=>by
  rw[Nat.mul_one]
  exact(hat.step h (by simp)).cell (u8s_get (by omega))
 refine calls (n:=188) Tryz.func186 rfl rfl rfl ?_
 refine sr<|WL.box (cs:=wvs s.l) rfl rfl rfl hs (fun b2 w hs=>?_)
 refine WL.alloc ty291 rfl hs (fun b4 w hs=>?_)
 refine wZ<|sr<|WL.alloc ty302 rfl hs (fun b5 w hs=>?_)
 refine wZ ?_
 rw[schedA_zero y] at hs
 refine cq<|sr<|wA<|wZ<|cB<|CW.loop (fun m f w'=>∃t,t≤64∧m=64 - t∧Step [] [(b5,blk 302 (wvs (schedA y t))),(b4,blk 291 [Value.int .u32 0,.int .u32 0,.int .u32 0,.int .u32 0,.int .u32 0,.int .u32 0,.int .u32 0,.int .u32 0]),(b2,blk 291 (wvs s.l))] w0 w'∧Holds f [(1,.slice (some ⟨bx,off,none⟩) 64 c),(2,pt b2),(4,pt b4),(5,pt b5),(6,.int .i64 (t:Nat))]) (m:=64) ?_ ?_
 ·exact⟨0,by omega,rfl,hs,rfl,rfl,rfl,rfl,rfl,trivial⟩
 ·clear hs
  rintro m f w ⟨t,ht,rfl,hs,hf⟩
  have ob:=hf.chain
  obtain⟨g,rfl⟩:=ob
  refine cq<|sr<|wm<|wV (run_lss rfl rfl)<|wZ<|CW.condP rfl (fun h=>?_) (fun h=>?_)
  ·have hlt:t<64:=by omega
   have ob:∃l,schedA y t=l:=⟨_,rfl⟩
   obtain⟨l,hl⟩:=ob
   have hll:l.length=64:=by rw[←hl];exact schedA_len ht
   rw[hl] at hs
   have hwl:(wvs l).length=64:=by rw[wvs_len,hll]
   refine ck<|cq<|cB<|cq<|sr<|wm<|wV (run_lss rfl rfl)<|wZ<|CW.condP rfl (fun h2=>?_) (fun h2=>?_)
   ·have hlt2:t<16:=by omega
    have hset:(wvs l).set (0+t*1) (wv (byW (y.getD (4*t) 0) <<< 24 ||| byW (y.getD (4*t+1) 0) <<< 16 ||| byW (y.getD (4*t+2) 0) <<< 8 ||| byW (y.getD (4*t+3) 0)))=wvs (schedA y (t+1)):=by
     rw[wordB_eq,Nat.mul_one,Nat.zero_add,wvs_set,←hl,schedA_set hlt,schedM_word hlt2]
    refine cq<|CW.quietT (l1:=[_,_,_,_,_,_,_,_,_,_,_,_,_,_,_,_,_,_,_,_,_,_,_,_,_,_,_,_,_,_,_,_,_,_,_]) (l2:=[_]) 35 rfl mixedP rfl (by kernel_rfl) hs ?_
    refine qm<|qm<|qm<|qV (fun w hs=>run_mul (c:=((4*t:Nat):Int)) rfl rfl (by omega) (by omega))<|qI u76 ty5 rfl rfl<|qL ty5 rfl (fun w hs=>hbyte (by omega) hs)<|qV (fun w hs=>run_to32 u5 u281 rfl)<|qV (fun w hs=>run_shl32 (n:=24) (by decide) rfl rfl)<|qm<|qm<|qV (fun w hs=>run_mul (c:=((4*t:Nat):Int)) rfl rfl (by omega) (by omega))<|qV (fun w hs=>run_add (c:=((4*t+1:Nat):Int)) rfl rfl (by omega) (by omega))<|qI u76 ty5 rfl rfl<|qL ty5 rfl (fun w hs=>hbyte (by omega) hs) ?_
    refine qV (fun w hs=>run_to32 u5 u281 rfl)<|qV (fun w hs=>run_shl32 (n:=16) (by decide) rfl rfl)<|qV (fun w hs=>run_or32 rfl rfl)<|qm<|qm<|qV (fun w hs=>run_mul (c:=((4*t:Nat):Int)) rfl rfl (by omega) (by omega))<|qV (fun w hs=>run_add (c:=((4*t+2:Nat):Int)) rfl rfl (by omega) (by omega))<|qI u76 ty5 rfl rfl<|qL ty5 rfl (fun w hs=>hbyte (by omega) hs)<|qV (fun w hs=>run_to32 u5 u281 rfl)<|qV (fun w hs=>run_shl32 (n:=8) (by decide) rfl rfl)<|qV (fun w hs=>run_or32 rfl rfl)<|qm<|qm ?_
    refine qV (fun w hs=>run_mul (c:=((4*t:Nat):Int)) rfl rfl (by omega) (by omega))<|qV (fun w hs=>run_add (c:=((4*t+3:Nat):Int)) rfl rfl (by omega) (by omega))<|qI u76 ty5 rfl rfl<|qL ty5 rfl (fun w hs=>hbyte (by omega) hs)<|qV (fun w hs=>run_to32 u5 u281 rfl)<|qV (fun w hs=>run_or32 rfl rfl)<|qV (fun w hs=>run_ixArrN u302 ty281 rfl rfl (by omega))<|QL.nil (fun w hs=>?_)
    refine ws1 ty281 rfl rfl (rfl) hs (fun w hs=>?_)
    refine wZ ?_
    replace hs:=(congrArg (fun cs=>Step [] [(b5,blk 302 cs),(b4,blk 291 [Value.int .u32 0,.int .u32 0,.int .u32 0,.int .u32 0,.int .u32 0,.int .u32 0,.int .u32 0,.int .u32 0]),(b2,blk 291 (wvs s.l))] w0 w) hset).mp hs
    refine CW.exit<|cr<|wm<|wP ((t+1:Nat):Int)<|wA<|wZ<|(show _∧_ from⟨rfl,_,?_,t+1,by omega,rfl,hs,rfl,rfl,rfl,rfl,rfl,trivial⟩)
    omega
   ·have ht1:16≤t:=by omega
    have hg:∀j,j≤t→(wvs l)[0+(t - j)*1]?=some (wv (l.getD (t - j) 0)):=fun j hj=>by rw[Nat.mul_one,Nat.zero_add];exact wvs_get (by omega)
    have hset:(wvs l).set (0+t*1) (wv (l.getD (t - 16) 0+(rotr (l.getD (t - 15) 0) 7 ^^^ rotr (l.getD (t - 15) 0) 18 ^^^ l.getD (t - 15) 0 >>> 3)+l.getD (t - 7) 0+(rotr (l.getD (t - 2) 0) 17 ^^^ rotr (l.getD (t - 2) 0) 19 ^^^ l.getD (t - 2) 0 >>> 10)))=wvs (schedA y (t+1)):=by
     rw[wNext_eq,Nat.mul_one,Nat.zero_add,wvs_set,←hl,schedA_set hlt,wNext_A ht1,schedM_next ht1]
    refine ck<|sr<|wm<|wS ((t - 15:Nat):Int)<|wV (run_ixArrN u302 ty281 rfl rfl (by omega))<|wl ty281 rfl (hs.c0 (hg 15 (by omega)))<|wA<|wZ<|sr<|wm<|wS ((t - 2:Nat):Int)<|wV (run_ixArrN u302 ty281 rfl rfl (by omega))<|wl ty281 rfl (hs.c0 (hg 2 (by omega)))<|wA<|wZ ?_
    refine CW.quietT (l1:=[_,_,_,_,_,_,_,_,_,_,_,_,_,_,_,_,_,_,_,_,_,_,_,_,_,_,_,_,_]) (l2:=[_]) 29 rfl mixedP rfl (by kernel_rfl) hs ?_
    refine qm<|qm<|qV (fun w hs=>run_sub (c:=((t - 16:Nat):Int)) rfl rfl (by omega) (by omega))<|qV (fun w hs=>run_ixArrN u302 ty281 rfl rfl (by omega))<|qL ty281 rfl (fun w hs=>hs.c0 (hg 16 (by omega)))<|qm<|QL.enter rfl (fun w=>run_call en196 rfl rfl) (fun w hs=>turned_spec (n:=7) (by decide) (by decide) _) ?_
    refine qm<|QL.enter rfl (fun w=>run_call en196 rfl rfl) (fun w hs=>turned_spec (n:=18) (by decide) (by decide) _) ?_
    refine qV (fun w hs=>run_xor32 rfl rfl)<|qm<|qV (fun w hs=>run_shr32 (n:=3) (by decide) rfl rfl)<|qV (fun w hs=>run_xor32 rfl rfl)<|qV (fun w hs=>run_add32 rfl rfl)<|qm<|qV (fun w hs=>run_sub (c:=((t - 7:Nat):Int)) rfl rfl (by omega) (by omega))<|qV (fun w hs=>run_ixArrN u302 ty281 rfl rfl (by omega))<|qL ty281 rfl (fun w hs=>hs.c0 (hg 7 (by omega)))<|qV (fun w hs=>run_add32 rfl rfl)<|qm<|QL.enter rfl (fun w=>run_call en196 rfl rfl) (fun w hs=>turned_spec (n:=17) (by decide) (by decide) _) ?_
    refine qm<|QL.enter rfl (fun w=>run_call en196 rfl rfl) (fun w hs=>turned_spec (n:=19) (by decide) (by decide) _) ?_
    refine qV (fun w hs=>run_xor32 rfl rfl)<|qm<|qV (fun w hs=>run_shr32 (n:=10) (by decide) rfl rfl)<|qV (fun w hs=>run_xor32 rfl rfl)<|qV (fun w hs=>run_add32 rfl rfl)<|qV (fun w hs=>run_ixArrN u302 ty281 rfl rfl (by omega))<|QL.nil (fun w hs=>?_)
    refine ws1 ty281 rfl rfl (rfl) hs (fun w hs=>?_)
    refine wZ ?_
    replace hs:=(congrArg (fun cs=>Step [] [(b5,blk 302 cs),(b4,blk 291 [Value.int .u32 0,.int .u32 0,.int .u32 0,.int .u32 0,.int .u32 0,.int .u32 0,.int .u32 0,.int .u32 0]),(b2,blk 291 (wvs s.l))] w0 w) hset).mp hs
    refine cr<|wm<|wP ((t+1:Nat):Int)<|wA<|wZ<|(show _∧_ from⟨rfl,_,?_,t+1,by omega,rfl,hs,rfl,rfl,rfl,rfl,rfl,trivial⟩)
    omega
  ·obtain rfl:t=64:=by omega
   have ob:∃W,sched y 64=W:=⟨_,rfl⟩
   obtain⟨W,hW⟩:=ob
   have hWl:W.length=64:=by rw[←hW];exact sched_len _ _
   rw[schedA_all,hW] at hs
   rw[stBlock_eq,hW]
   refine CW.exit<|sr<|wR ty291 rfl (by rfl) hs.a2<|WL.alloc ty291 rfl hs (fun b9 w hs=>?_)
   refine WL.storeAll ty291 rfl rfl ((by rfl)) (Cells1.wvs _) hs (by rfl) (fun w hs=>?_)
   refine wZ<|cq<|sr<|wA<|wZ<|cB<|CW.loop (fun m f w'=>∃t,t≤64∧m=64 - t∧Step [] [(b9,blk 291 (wvs (stRounds s W t).l)),(b5,blk 302 (wvs W)),(b4,blk 291 [Value.int .u32 0,.int .u32 0,.int .u32 0,.int .u32 0,.int .u32 0,.int .u32 0,.int .u32 0,.int .u32 0]),(b2,blk 291 (wvs s.l))] w0 w'∧Holds f [(2,pt b2),(4,pt b4),(5,pt b5),(9,pt b9),(10,.int .i64 (t:Nat))]) (m:=64) ?_ ?_
   ·exact⟨0,by omega,rfl,by rw[stRounds_zero];exact hs,rfl,rfl,rfl,rfl,rfl,trivial⟩
   ·clear hs
    rintro m f w ⟨t,ht,rfl,hs,hf⟩
    have ob:=hf.chain
    obtain⟨g,rfl⟩:=ob
    refine cq<|sr<|wm<|wV (run_lss rfl rfl)<|wZ<|CW.condP rfl (fun h=>?_) (fun h=>?_)
    ·have hlt:t<64:=by omega
     have ob:∃st,stRounds s W t=st:=⟨_,rfl⟩
     obtain⟨st,hst⟩:=ob
     rw[hst] at hs
     have hw:(wvs W)[0+t*1]?=some (wv (W.getD t 0)):=by rw[Nat.mul_one,Nat.zero_add];exact wvs_get (by omega)
     have hset:wvs (St8.mk ((st.h+(rotr st.e 6 ^^^ rotr st.e 11 ^^^ rotr st.e 25)+(st.e &&& st.f ^^^ ~~~ st.e &&& st.g)+kL.getD t 0+W.getD t 0)+((rotr st.a 2 ^^^ rotr st.a 13 ^^^ rotr st.a 22)+(st.a &&& st.b ^^^ st.a &&& st.c ^^^ st.b &&& st.c))) st.a st.b st.c (st.d+(st.h+(rotr st.e 6 ^^^ rotr st.e 11 ^^^ rotr st.e 25)+(st.e &&& st.f ^^^ ~~~ st.e &&& st.g)+kL.getD t 0+W.getD t 0)) st.e st.f st.g).l=wvs (stRounds s W (t+1)).l:=by
      rw[stRounds_succ,hst,stStep,stP,stQ]
     refine ck<|cq<|cB<|sr<|wV (run_ixArrN (i:=0) u291 ty281 rfl rfl (by omega))<|wl ty281 rfl (hs.c0 (v:=wv st.a) rfl)<|wA<|wZ<|sr<|wV (run_ixArrN (i:=4) u291 ty281 rfl rfl (by omega))<|wl ty281 rfl (hs.c0 (v:=wv st.e) rfl)<|wA<|wZ<|cq ?_
     refine CW.quiet mixedP (by kernel_rfl) hs ?_
     refine qV (fun w hs=>run_ixArrN (i:=7) u291 ty281 rfl rfl (by omega))<|qL ty281 rfl (fun w hs=>hs.c0 (v:=wv st.h) rfl)<|qm<|QL.enter rfl (fun w=>run_call en196 rfl rfl) (fun w hs=>turned_spec (n:=6) (by decide) (by decide) _) ?_
     refine qm<|QL.enter rfl (fun w=>run_call en196 rfl rfl) (fun w hs=>turned_spec (n:=11) (by decide) (by decide) _) ?_
     refine qV (fun w hs=>run_xor32 rfl rfl)<|qm<|QL.enter rfl (fun w=>run_call en196 rfl rfl) (fun w hs=>turned_spec (n:=25) (by decide) (by decide) _) ?_
     refine qV (fun w hs=>run_xor32 rfl rfl)<|qV (fun w hs=>run_add32 rfl rfl)<|qm<|qV (fun w hs=>run_ixArrN (i:=5) u291 ty281 rfl rfl (by omega))<|qL ty281 rfl (fun w hs=>hs.c0 (v:=wv st.f) rfl)<|qV (fun w hs=>run_and32 rfl rfl)<|qm<|qV (fun w hs=>run_not32 rfl)<|qV (fun w hs=>run_ixArrN (i:=6) u291 ty281 rfl rfl (by omega))<|qL ty281 rfl (fun w hs=>hs.c0 (v:=wv st.g) rfl)<|qV (fun w hs=>run_and32 rfl rfl)<|qV (fun w hs=>run_xor32 rfl rfl)<|qV (fun w hs=>run_add32 rfl rfl)<|qm ?_
     refine QL.enter rfl (fun w=>run_call en197 rfl rfl) (fun w hs=>round_spec hlt _) ?_
     refine qV (fun w hs=>run_add32 rfl rfl)<|qm<|qV (fun w hs=>run_ixArrN u302 ty281 rfl rfl (by omega))<|qL ty281 rfl (fun w hs=>hs.c1 hw)<|qV (fun w hs=>run_add32 rfl rfl)<|qA<|QL.nil (fun w hs=>?_)
     refine cq<|CW.quiet mixedP (by kernel_rfl) hs ?_
     refine qm<|QL.enter rfl (fun w=>run_call en196 rfl rfl) (fun w hs=>turned_spec (n:=2) (by decide) (by decide) _) ?_
     refine qm<|QL.enter rfl (fun w=>run_call en196 rfl rfl) (fun w hs=>turned_spec (n:=13) (by decide) (by decide) _) ?_
     refine qV (fun w hs=>run_xor32 rfl rfl)<|qm<|QL.enter rfl (fun w=>run_call en196 rfl rfl) (fun w hs=>turned_spec (n:=22) (by decide) (by decide) _) ?_
     refine qV (fun w hs=>run_xor32 rfl rfl)<|qm<|qV (fun w hs=>run_ixArrN (i:=1) u291 ty281 rfl rfl (by omega))<|qL ty281 rfl (fun w hs=>hs.c0 (v:=wv st.b) rfl)<|qV (fun w hs=>run_and32 rfl rfl)<|qm<|qV (fun w hs=>run_ixArrN (i:=2) u291 ty281 rfl rfl (by omega))<|qL ty281 rfl (fun w hs=>hs.c0 (v:=wv st.c) rfl)<|qV (fun w hs=>run_and32 rfl rfl)<|qV (fun w hs=>run_xor32 rfl rfl)<|qV (fun w hs=>run_ixArrN (i:=1) u291 ty281 rfl rfl (by omega))<|qL ty281 rfl (fun w hs=>hs.c0 (v:=wv st.b) rfl)<|qV (fun w hs=>run_ixArrN (i:=2) u291 ty281 rfl rfl (by omega))<|qL ty281 rfl (fun w hs=>hs.c0 (v:=wv st.c) rfl) ?_
     refine qV (fun w hs=>run_and32 rfl rfl)<|qV (fun w hs=>run_xor32 rfl rfl)<|qV (fun w hs=>run_add32 rfl rfl)<|qA<|QL.nil (fun w hs=>?_)
     refine cr<|wm<|wm<|wV (run_add32 rfl rfl)<|wm<|wV (run_ixArrN (i:=1) u291 ty281 rfl rfl (by omega))<|wl ty281 rfl (hs.c0 (v:=wv st.b) rfl)<|wV (run_ixArrN (i:=2) u291 ty281 rfl rfl (by omega))<|wl ty281 rfl (hs.c0 (v:=wv st.c) rfl)<|wV (run_ixArrN (i:=3) u291 ty281 rfl rfl (by omega))<|wl ty281 rfl (hs.c0 (v:=wv st.d) rfl)<|wm<|wV (run_add32 rfl rfl)<|wm<|wV (run_ixArrN (i:=5) u291 ty281 rfl rfl (by omega))<|wl ty281 rfl (hs.c0 (v:=wv st.f) rfl)<|wV (run_ixArrN (i:=6) u291 ty281 rfl rfl (by omega))<|wl ty281 rfl (hs.c0 (v:=wv st.g) rfl)<|wV (run_build rfl (bld8 ((st.h+(rotr st.e 6 ^^^ rotr st.e 11 ^^^ rotr st.e 25)+(st.e &&& st.f ^^^ ~~~ st.e &&& st.g)+kL.getD t 0+W.getD t 0)+((rotr st.a 2 ^^^ rotr st.a 13 ^^^ rotr st.a 22)+(st.a &&& st.b ^^^ st.a &&& st.c ^^^ st.b &&& st.c))) st.a st.b st.c (st.d+(st.h+(rotr st.e 6 ^^^ rotr st.e 11 ^^^ rotr st.e 25)+(st.e &&& st.f ^^^ ~~~ st.e &&& st.g)+kL.getD t 0+W.getD t 0)) st.e st.f st.g _)) ?_
     refine WL.storeAll ty291 rfl rfl ((by rfl)) (Cells1.wvs _) hs (by rfl) (fun w hs=>?_)
     refine wZ ?_
     rw[hset] at hs
     refine cr<|wm<|wP ((t+1:Nat):Int)<|wA<|wZ<|(show _∧_ from⟨rfl,_,?_,t+1,by omega,rfl,hs,rfl,rfl,rfl,rfl,rfl,trivial⟩)
     omega
    ·obtain rfl:t=64:=by omega
     have ob:∃r,stRounds s W 64=r:=⟨_,rfl⟩
     obtain⟨r,hR⟩:=ob
     rw[hR] at hs⊢
     replace hs:Step [] [(b2,blk 291 (wvs s.l)),(b9,blk 291 (wvs r.l)),(b4,blk 291 [Value.int .u32 0,.int .u32 0,.int .u32 0,.int .u32 0,.int .u32 0,.int .u32 0,.int .u32 0,.int .u32 0])] w0 w:=(Step.front [_,_] (hs.front [_,_,_])).tail
     refine CW.exit<|cq<|sr<|wA<|wZ<|cB<|CW.loop (fun m f w'=>∃i,i≤8∧m=8 - i∧Step [] [(b2,blk 291 (wvs (mixW s s r i))),(b9,blk 291 (wvs r.l)),(b4,blk 291 [Value.int .u32 0,.int .u32 0,.int .u32 0,.int .u32 0,.int .u32 0,.int .u32 0,.int .u32 0,.int .u32 0])] w0 w'∧Holds f [(2,pt b2),(4,pt b4),(9,pt b9),(15,.int .i64 (i:Nat))]) (m:=8) ?_ ?_
     ·exact⟨0,by omega,rfl,by rw[mixW_zero];exact hs,rfl,rfl,rfl,rfl,trivial⟩
     ·clear hs
      rintro m f w ⟨i,hi,rfl,hs,hf⟩
      have ob:=hf.chain
      obtain⟨g,rfl⟩:=ob
      refine cq<|sr<|wm<|wV (run_lss rfl rfl)<|wZ<|CW.condP rfl (fun h=>?_) (fun h=>?_)
      ·have hlt:i<8:=by omega
       have hr1:(wvs r.l)[0+i*1]?=some (wv (r.l.getD i 0)):=by rw[Nat.mul_one,Nat.zero_add];exact St8_get hlt
       have hml:=mixW_len (s:=s) (S:=s) (r:=r) hi
       refine ck<|cq<|cB<|CW.quietT (l1:=[_,_,_,_,_,_,_,_,_]) (l2:=[_]) 9 rfl mixedP rfl (by kernel_rfl) hs ?_
       refine qm<|qm<|qV (fun w hs=>run_ixArrN u291 ty281 rfl rfl (by omega))<|qL ty281 rfl (fun w hs=>hs.c0 (mixW_get hlt))<|qm<|qV (fun w hs=>run_ixArrN u291 ty281 rfl rfl (by omega))<|qL ty281 rfl (fun w hs=>hs.c1 hr1)<|qV (fun w hs=>run_add32 rfl rfl)<|qV (fun w hs=>run_ixArrN u291 ty281 rfl rfl (by omega))<|QL.nil (fun w hs=>?_)
       refine ws1 ty281 rfl rfl (rfl) hs (fun w hs=>?_)
       refine wZ ?_
       replace hs:=(congrArg (fun cs=>Step [] [(b2,blk 291 cs),(b9,blk 291 (wvs r.l)),(b4,blk 291 [Value.int .u32 0,.int .u32 0,.int .u32 0,.int .u32 0,.int .u32 0,.int .u32 0,.int .u32 0,.int .u32 0])] w0 w) (mixW_set0 hlt)).mp hs
       refine cr<|wm<|wP ((i+1:Nat):Int)<|wA<|wZ<|(show _∧_ from⟨rfl,_,?_,i+1,by omega,rfl,hs,rfl,rfl,rfl,rfl,trivial⟩)
       omega
      ·obtain rfl:i=8:=by omega
       rw[mixW_all] at hs
       refine CW.exit<|sr<|wR ty291 rfl (by rfl) hs.a0<|WL.storeAll_2 ty291 rfl rfl ((by rfl)) (Cells1.wvs _) hs (by rfl) (fun w hs=>?_)
       refine wZ<|CW.ret ?_
       refine fin_cell1 rfl rfl (run_loadVarN ty291 (by rfl) hs.a2) ?_
       exact⟨rfl,hs.clear⟩
end Go.Gx
namespace Go.Gx
open Go.Proofs List
section
variable{P:Program}{f:Slots}{w:World}{d:Option Tmp}{ty:TypeId}{pos:String}{af:Array Edge}{x y:Operand}{T T' E:TypeId}{k:IntKind}
theorem run_mulU{n m:Nat} (hx:ev f x=.int .u64 n) (hy:ev f y=.int .u64 m):(execOp (ev f) ⟨d,.binOp .mul T x y T',ty,pos,af,none⟩).run P w=.ok (.value (.int .u64 ((n*m % 18446744073709551616:Nat):Int))) w:=by
 rw[run_mulW hx hy]
 have e:IntKind.u64.wrap ((n:Int)*m)=((n*m % 18446744073709551616:Nat):Int):=by
  unfold IntKind.wrap
  simp only[IntKind.bits,IntKind.signed,Bool.false_and,Bool.false_eq_true,if_false]
  have:(2:Int) ^ 64=((18446744073709551616:Nat):Int):=by decide
  rw[this,Int.natCast_emod,Int.natCast_mul]
 rw[e]
end
theorem own_snoc{v:Value}{acc:U8}{k:Nat}{c:UInt8}{L:OL} (h:OwnSl 5 1 v (k+1) (u8s acc++[.int .u8 c.toNat]) L):OwnSl 5 1 v (k+1) (u8s (acc++[c])) L:=by
 rw[show u8s (acc++[c])=u8s acc++[.int .u8 c.toNat] by simp[u8s]]
 exact h
theorem lenB_snoc{n i:Nat} (h:i<8):(lenB n).take (i+1)=(lenB n).take i++[UInt8.ofNat (n*8 % 18446744073709551616 / 256 ^ (7 - i))]:=by
 rw[←lenB_get h,take_add_one,getD_eq_getElem?_getD,getElem?_eq_getElem (by rw[lenB_len];exact h)]
 rfl
theorem fillB_eq2 (x:U8):fillB x=x++padA x.length++(lenB x.length).take 8:=by
 rw[take_of_length_le (by rw[lenB_len];omega),fillB,padA];simp
attribute [local irreducible] lenB fillB
theorem filled_spec{v:Value}{x:U8} (w0:World) (hv:Sl w0 1 v x.length (u8s x)) (hsz:x.length<1099511627776) :
  CP 185 #[v] w0 fun e w'=>∃v' Lv,e=.returned v'∧OwnSl 5 1 v' (fillB x).length (u8s (fillB x)) Lv∧Step [] Lv w0 w':=by
 have hs:Step [] [] w0 w0:=Step.refl w0
 have ob:=Sl.form hv
 obtain⟨av,cv,rfl⟩:=ob
 have ob:∃Z,(119 - x.length % 64) % 64=Z:=⟨_,rfl⟩
 obtain⟨Z,hZ⟩:=ob
 refine calls (n:=37) Tryz.func185 rfl rfl rfl ?_
 refine sr<|wA<|wZ<|sr<|wA<|wZ<|sr<|wm<|wm<|WL.append u76 u76 ty5 rfl (by decide) rfl rfl (OwnSl.nil _ _) (hs) (hv) (Cells1.u8s _) (by omega) rfl (fun v8 Lv8 w hv8 hs=>?_)
 refine wA<|wZ ?_
 replace hv8:OwnSl 5 1 v8 x.length (u8s x) Lv8:=by simpa using hv8
 replace hs:Step [] Lv8 w0 w:=by simpa using hs
 have ob:=hv8.form
 obtain⟨a8,c8,rfl⟩:=ob
 refine sr<|wm<|WL.buildSlice (cs:=[.int .u8 128]) u76 ty5 rfl (by decide) rfl (by rfl) rfl hs (fun b10 w hs=>?_)
 refine WL.append u76 u76 ty5 rfl (by decide) rfl rfl (hv8) (Step.append_comm (L1:=[_]) hs) (.own1 hs rfl) (Cells1.of_all rfl) (by omega) rfl (fun v11 Lv11 w hv11 hs=>?_)
 refine wA<|wZ ?_
 replace hv11:=own_snoc (c:=128) hv11
 replace hs:Step [] Lv11 w0 w:=hs.dropR
 refine cq<|cB<|CW.loop (fun m f w'=>∃(j:Nat) (u:Value) (Lu:OL),j≤Z∧m=Z - j∧OwnSl 5 1 u (x.length+1+j) (u8s (x++128::List.replicate j 0)) Lu∧Step [] Lu w0 w'∧Holds f [(0,.slice av x.length cv),(3,u)]) (m:=Z) ?_ ?_
 ·exact⟨0,_,_,by omega,rfl,hv11,hs,rfl,rfl,trivial⟩
 ·clear hs
  rintro m f w ⟨j,u,Lu,hj,rfl,hu,hs,hf⟩
  have ob:=hf.chain
  obtain⟨g,rfl⟩:=ob
  have ob:=hu.form
  obtain⟨au,cu,rfl⟩:=ob
  refine cq<|sr<|wm<|wL u76 rfl<|wV (run_remN (m:=64) rfl rfl (by decide))<|wV (run_neq rfl rfl)<|wZ<|CW.condP rfl (fun h=>?_) (fun h=>?_)
  ·have hlt:j<Z:=by omega
   refine ck<|cB<|cr<|wm<|WL.buildSlice (cs:=[.int .u8 0]) u76 ty5 rfl (by decide) rfl (by rfl) rfl hs (fun b17 w hs=>?_)
   refine WL.append u76 u76 ty5 rfl (by decide) rfl rfl (hu) (Step.append_comm (L1:=[_]) hs) (.own1 hs rfl) (Cells1.of_all rfl) (by omega) rfl (fun v18 Lv18 w hv18 hs=>?_)
   refine wA<|wZ ?_
   have hu':=own_snoc (c:=0) hv18
   rw[show(x++128::List.replicate j 0)++[(0:UInt8)]=x++128::List.replicate (j+1) 0 by rw[append_assoc,cons_append,replicate_succ']] at hu'
   refine(show _∧_ from⟨rfl,_,?_,j+1,_,_,by omega,rfl,hu',hs.dropR,rfl,rfl,trivial⟩)
   omega
  ·obtain rfl:j=Z:=by omega
   have hpl:x.length+1+j=(x++padA x.length).length:=by rw[length_append,padA_len];omega
   have hpe:x++128::List.replicate j 0=x++padA x.length:=by rw[padA,hZ]
   have ob:∃A,x++padA x.length=A:=⟨_,rfl⟩
   obtain⟨A,hA⟩:=ob
   rw[hpe,hA] at hu
   rw[hA] at hpl
   refine CW.exit<|sr<|wm<|wL u76 rfl<|wV (run_convU64 u3 u240 rfl (by omega))<|wV (run_mulU (n:=x.length) (m:=8) rfl rfl)<|wA<|wZ<|cq<|sr<|wA<|wZ<|cB ?_
   refine CW.loop (fun m f w'=>∃(i:Nat) (u:Value) (Lu:OL),i≤8∧m=8 - i∧OwnSl 5 1 u (x.length+1+j+i) (u8s (A++(lenB x.length).take i)) Lu∧Step [] Lu w0 w'∧Holds f [(3,u),(4,.int .u64 ((x.length*8 % 18446744073709551616:Nat):Int)),(5,.int .i64 (i:Nat))]) (m:=8) ?_ ?_
   ·exact⟨0,_,_,by omega,rfl,by rw[take_zero,append_nil];exact hu,hs,rfl,rfl,rfl,trivial⟩
   ·clear hs hu
    rintro m f w ⟨i,u,Lu,hi,rfl,hu,hs,hf⟩
    have ob:=hf.chain
    obtain⟨g,rfl⟩:=ob
    have ob:=hu.form
    obtain⟨au,cu,rfl⟩:=ob
    refine cq<|sr<|wm<|wV (run_lss rfl rfl)<|wZ<|CW.condP rfl (fun h=>?_) (fun h=>?_)
    ·have hlt:i<8:=by omega
     refine ck<|cq<|cB<|cr<|wm<|wm<|wm<|wS ((7 - i:Nat):Int)<|wV (run_mul (c:=((8*(7 - i):Nat):Int)) rfl rfl (by omega) (by omega))<|wV (run_shrN (j:=7 - i) rfl rfl (by simp only[IntKind.bits];omega))<|wV (run_convU8 u240 u5 rfl)<|WL.buildSlice (cs:=[.int .u8 (UInt8.ofNat (x.length*8 % 18446744073709551616 / 256 ^ (7 - i))).toNat]) u76 ty5 rfl (by decide) rfl (by rfl) rfl hs (fun b34 w hs=>?_)
     refine WL.append u76 u76 ty5 rfl (by decide) rfl rfl (hu) (Step.append_comm (L1:=[_]) hs) (.own1 hs rfl) (Cells1.of_all rfl) (by omega) rfl (fun v35 Lv35 w hv35 hs=>?_)
     refine wA<|wZ ?_
     have hu':=own_snoc hv35
     rw[append_assoc,←lenB_snoc hlt] at hu'
     refine cr<|wm<|wP ((i+1:Nat):Int)<|wA<|wZ<|(show _∧_ from⟨rfl,_,?_,i+1,_,_,by omega,rfl,hu',hs.dropR,rfl,rfl,rfl,trivial⟩)
     omega
    ·obtain rfl:i=8:=by omega
     refine CW.exit<|sr<|wm<|wA<|wZ<|CW.ret ?_
     refine fin_ret1 rfl ?_
     rw[←hA,←fillB_eq2] at hu
     have hfl:(fillB x).length=x.length+1+j+8:=by rw[fillB_eq2,hA,length_append,←hpl,length_take,lenB_len];omega
     exact⟨_,_,rfl,by rw[hfl];exact hu,hs⟩
end Go.Gx
namespace Go.Gx
open Go.Proofs List
section
variable{P:Program}{f:Slots}{w:World}{d:Option Tmp}{ty:TypeId}{pos:String}{af:Array Edge}{x y:Operand}{T T' E:TypeId}{k:IntKind}
theorem run_quoN{n m:Nat} (hx:ev f x=.int .i64 n) (hy:ev f y=.int .i64 m) (hm:m≠0) (hn:n<9223372036854775808):(execOp (ev f) ⟨d,.binOp .quo T x y T',ty,pos,af,none⟩).run P w=.ok (.value (.int .i64 ((n / m:Nat):Int))) w:=by
 rw[run_quoW hx hy (by omega)]
 have e:(n:Int).tdiv m=((n / m:Nat):Int):=by rw[Int.ofNat_tdiv]
 have h2:n / m≤n:=Nat.div_le_self n m
 have ob:∃q,n / m=q:=⟨_,rfl⟩
 obtain⟨q,hq⟩:=ob
 rw[hq] at h2
 rw[e,hq,wrap_i64 (by omega)]
end
theorem fillB_len (x:U8):(fillB x).length=64*((fillB x).length / 64):=by
 rw[←fillB_eq,length_append,bufL_len (by decide)]
 omega
theorem stBlocks_succ (l:U8) (n:Nat):stBlocks l (n+1)=stBlock (stBlocks l n) ((l.drop (64*n)).take 64):=rfl
theorem stBlocks_zero (l:U8):stBlocks l 0=iv8:=rfl
theorem shaL_eq (x:U8):shaL x=digB (stBlocks (fillB x) ((fillB x).length / 64)):=rfl
theorem digB_at{s:St8}{i:Nat} (h:i<32):(digB s).getD i 0=UInt8.ofNat ((s.l.getD (i / 4) 0).toNat / 256 ^ (3 - i % 4)):=by
 rw[←digB_get (by omega) (Nat.mod_lt i (by decide))]
 congr 1
 omega
theorem refDig_zero (G:U8):List.replicate 32 (Value.int .u8 0)=u8s (digL G 0):=rfl
attribute [local irreducible] stBlock stBlocks fillB digB digL shaL
theorem refOf_spec{v:Value}{x:U8} (w0:World) (hv:Sl w0 1 v x.length (u8s x)) (hsz:x.length<1099511627776) :
  CP 156 #[v] w0 (Ret0 (.agg (u8s (shaL x)).toArray) w0):=by
 have hs:Step [] [] w0 w0:=Step.refl w0
 have hfl:=fillB_len x
 have hfl2:(fillB x).length≤x.length+80:=by rw[←fillB_eq,length_append,bufL_len (by decide)];omega
 have hfl3:0<(fillB x).length:=by rw[←fillB_eq,length_append,bufL_len (by decide)];omega
 rw[shaL_eq]
 have ob:∃F,fillB x=F:=⟨_,rfl⟩
 obtain⟨F,hF⟩:=ob
 refine calls (n:=41) Tryz.func156 rfl rfl rfl ?_
 refine sr<|WL.alloc ty201 rfl hs (fun b2 w hs=>?_)
 refine wZ<|sr<|wV (run_build rfl (bld_iv _))<|WL.alloc ty291 rfl hs (fun b3 w hs=>?_)
 refine WL.storeAll ty291 rfl rfl ((by rfl)) (Cells1.wvs _) hs (by rfl) (fun w hs=>?_)
 refine wZ<|sr<|wm<|wE rfl (run_call en185 rfl rfl) (filled_spec _ (hv.step0 hs) hsz) ?_
 rintro e w ⟨v',Lv,rfl,hu,hq⟩
 refine⟨_,rfl,?_⟩
 replace hs:=Step.call0 hs hq
 refine wA<|wZ ?_
 rw[hF] at hfl hfl2 hfl3 hu⊢
 have ob:∃N,F.length / 64=N:=⟨_,rfl⟩
 obtain⟨N,hN⟩:=ob
 rw[hN] at hfl⊢
 have ob:=hu.some1 hfl3
 obtain⟨b',c,more,rfl,rfl,hc⟩:=ob
 have hcap:F.length≤c:=by rw[length_append,u8s,length_map] at hc;omega
 have hat:∀{L:OL}{w:World} (i:Nat),Step [] ((b',blk 5 (u8s F++more))::L) w0 w→At w b' (64*i) (u8s ((F.drop (64*i)).take 64)):=fun {L w} i h=>by
  have h1:=((h.a0.left).drop (64*i)).take 64
  rw[Nat.zero_add,u8s,←map_drop,←map_take] at h1
  exact h1
 replace hs:Step [] [(b',blk 5 (u8s F++more)),(b3,blk 291 (wvs iv8.l)),(b2,blk 201 (List.replicate 32 (Value.int .u8 0)))] w0 w:=hs
 refine cq<|sr<|wA<|wZ<|cB<|CW.loop (fun m f w'=>∃i,i≤N∧m=N - i∧Step [] [(b',blk 5 (u8s F++more)),(b3,blk 291 (wvs (stBlocks F i).l)),(b2,blk 201 (List.replicate 32 (Value.int .u8 0)))] w0 w'∧Holds f [(2,pt b2),(3,pt b3),(4,.slice (some ⟨b',0,none⟩) F.length c),(5,.int .i64 ((64*i:Nat):Int))]) (m:=N) ?_ ?_
 ·exact⟨0,by omega,rfl,by rw[stBlocks_zero];exact hs,rfl,rfl,rfl,rfl,trivial⟩
 ·clear hs
  rintro m f w ⟨i,hi,rfl,hs,hf⟩
  have ob:=hf.chain
  obtain⟨g,rfl⟩:=ob
  refine cq<|sr<|wm<|wm<|wL u76 rfl<|wV (run_lss rfl rfl)<|wZ<|CW.condP rfl (fun h=>?_) (fun h=>?_)
  ·have hlt:i<N:=by omega
   have ob:∃st,stBlocks F i=st:=⟨_,rfl⟩
   obtain⟨st,hst⟩:=ob
   rw[hst] at hs
   have hyl:((F.drop (64*i)).take 64).length=64:=by rw[length_take,length_drop];omega
   have hcut:cutSl 1 b' 0 (64*i) (64*i+64) c=.slice (some ⟨b',64*i,none⟩) 64 (c - 64*i):=by
    rw[cutSl,if_neg (by omega),Nat.mul_one,Nat.zero_add,show 64*i+64 - 64*i=64 by omega]
   have hset:wvs (stBlock st ((F.drop (64*i)).take 64)).l=wvs (stBlocks F (i+1)).l:=by rw[stBlocks_succ,hst]
   refine ck<|cq<|cB<|CW.quietT (l1:=[_,_,_,_,_,_,_]) (l2:=[_]) 7 rfl mixedP rfl (by kernel_rfl) hs ?_
   refine qV (fun w hs=>run_loadN ty291 rfl (by rfl) hs.a1)<|qm<|qm<|qm<|qV (fun w hs=>run_add (c:=((64*i+64:Nat):Int)) rfl rfl (by omega) (by omega))<|qV (fun w hs=>run_sliceSlE (lo:=64*i) (hi:=64*i+64) (m:=c) u76 ty5 rfl rfl rfl rfl (by simp) (by omega) (by omega) (by omega) hcut)<|QL.enter rfl (fun w=>run_call en186 rfl rfl) (fun w hs=>refBlock_spec (s:=st) _ (hat i hs) hyl) ?_
   refine QL.nil (fun w hs=>?_)
   refine WL.storeAll_1 ty291 rfl rfl ((by rfl)) (Cells1.wvs _) hs (by rfl) (fun w hs=>?_)
   refine wZ ?_
   rw[hset] at hs
   refine cr<|wm<|wP ((64*(i+1):Nat):Int)<|wA<|wZ<|(show _∧_ from⟨rfl,_,?_,i+1,by omega,rfl,hs,rfl,rfl,rfl,rfl,trivial⟩)
   omega
  ·obtain rfl:i=N:=by omega
   have ob:∃S,stBlocks F i=S:=⟨_,rfl⟩
   obtain⟨S,hS⟩:=ob
   rw[hS] at hs⊢
   have ob:∃G,digB S=G:=⟨_,rfl⟩
   obtain⟨G,hG⟩:=ob
   have hGl:G.length=32:=by rw[←hG];exact digB_len S
   rw[hG]
   refine CW.exit<|sr<|WL.alloc ty201 rfl hs (fun b6 w hs=>?_)
   refine wZ ?_
   rw[refDig_zero G] at hs
   refine cq<|sr<|wA<|wZ ?_
   replace hs:Step [] [(b6,blk 201 (u8s (digL G 0))),(b3,blk 291 (wvs S.l)),(b2,blk 201 (u8s (digL G 0)))] w0 w:=(Step.front [_] hs).tail
   refine cB<|CW.loop (fun m f w'=>∃i,i≤32∧m=32 - i∧Step [] [(b6,blk 201 (u8s (digL G i))),(b3,blk 291 (wvs S.l)),(b2,blk 201 (u8s (digL G 0)))] w0 w'∧Holds f [(2,pt b2),(3,pt b3),(6,pt b6),(7,.int .i64 (i:Nat))]) (m:=32) ?_ ?_
   ·exact⟨0,by omega,rfl,hs,rfl,rfl,rfl,rfl,trivial⟩
   ·clear hs
    rintro m f w ⟨i,hi,rfl,hs,hf⟩
    have ob:=hf.chain
    obtain⟨g,rfl⟩:=ob
    refine cq<|sr<|wm<|wV (run_lss rfl rfl)<|wZ<|CW.condP rfl (fun h=>?_) (fun h=>?_)
    ·have hlt:i<32:=by omega
     have hS1:(wvs S.l)[0+(i / 4)*1]?=some (wv (S.l.getD (i / 4) 0)):=by rw[Nat.mul_one,Nat.zero_add];exact St8_get (by omega)
     have hset:(u8s (digL G i)).set (0+i*1) (.int .u8 (UInt8.ofNat ((S.l.getD (i / 4) 0).toNat / 256 ^ (3 - i % 4))).toNat)=u8s (digL G (i+1)):=by
      rw[Nat.mul_one,Nat.zero_add,u8s_set,←digB_at hlt,hG,digL_set hlt hGl]
     have hdl:(u8s (digL G i)).length=32:=by rw[u8s,length_map,digL_len hi hGl]
     refine ck<|cq<|cB<|cr<|wm<|wm<|wV (run_quoN (m:=4) rfl rfl (by decide) (by omega))<|wV (run_ixArrN u291 ty281 rfl rfl (by omega))<|wl ty281 rfl (hs.c1 hS1)<|wm<|wV (run_remN (m:=4) rfl rfl (by decide))<|wS ((3 - i % 4:Nat):Int)<|wV (run_mul (c:=((8*(3 - i % 4):Nat):Int)) rfl rfl (by omega) (by omega))<|wV (run_shrN (j:=3 - i % 4) rfl rfl (by simp only[IntKind.bits];omega))<|wV (run_convU8 u281 u5 rfl)<|wV (run_ixArrN u201 ty5 rfl rfl (by omega)) ?_
     refine ws1 ty5 rfl rfl (rfl) hs (fun w hs=>?_)
     refine wZ ?_
     replace hs:=(congrArg (fun cs=>Step [] [(b6,blk 201 cs),(b3,blk 291 (wvs S.l)),(b2,blk 201 (u8s (digL G 0)))] w0 w) hset).mp hs
     refine cr<|wm<|wP ((i+1:Nat):Int)<|wA<|wZ<|(show _∧_ from⟨rfl,_,?_,i+1,by omega,rfl,hs,rfl,rfl,rfl,rfl,trivial⟩)
     omega
    ·obtain rfl:i=32:=by omega
     rw[digL_all hGl] at hs
     have hgl:(u8s G).length=32:=by rw[u8s,length_map,hGl]
     have hgl0:(u8s (digL G 0)).length=32:=by rw[u8s,length_map,digL_len (by decide) hGl]
     refine CW.exit<|sr<|wR ty201 rfl hgl hs.a0<|WL.storeAll_2 ty201 rfl rfl ((hgl)) (Cells1.u8s _) hs (by assumption) (fun w hs=>?_)
     refine wZ<|CW.ret ?_
     refine fin_cell1 rfl rfl (run_loadVarN ty201 (by assumption) hs.a2) ?_
     exact⟨rfl,hs.clear⟩
end Go.Gx
namespace Go.Gx
open Go.Proofs List
theorem rdig_key:Tryz.prog.keyTypeAt 5 201=true:=by kernel_rfl
theorem rdig_guard:Tryz.prog.eqGuardType Tryz.prog.depth 201=false:=by kernel_rfl
theorem rdig_formed{d:U8} (h:d.length=32):Value.formed Tryz.prog 201 (.agg (u8s d).toArray)=true:=by
 simp only[Value.formed,u201,ty201.cellsOf]
 simp[u8s,h]
theorem rdig_lits{d:U8} (h:d.length=32):Tryz.prog.keyLits 4 201 (u8s d)=some (u8l d):=lits_u8 (d:=2) u201 u5 ty201 ty5 h
section
variable{f:Slots}{w:World}{d:Option Tmp}{ty:TypeId}{pos:String}{af:Array Edge}{x y:Operand}{T':TypeId}
theorem run_eqRdig{a b:U8} (ha:a.length=32) (hb:b.length=32) (hx:ev f x=.agg (u8s a).toArray) (hy:ev f y=.agg (u8s b).toArray) :
  (execOp (ev f) ⟨d,.binOp .eql 201 x y T',ty,pos,af,none⟩).run Tryz.prog w=.ok (.value (.bool (decide (a=b)))) w:=
 run_eqlAgg u8l_iff rdig_key (rdig_formed ha) (rdig_formed hb) rdig_guard hx hy (rdig_lits ha) (rdig_lits hb)
end
def fitsL (d:(List UInt8)) (k:Int):Bool:=decide (1≤k∧k≤32∧cutD d k.toNat=d)
theorem zD_len:zD.length=32:=by simp[zD]
theorem fits_spec{d:U8}{k:Int} (hd:d.length=32) (w:World):CP 89 #[.agg (u8s d).toArray,.int .i64 k] w (Ret0 (.bool (fitsL d k)) w):=by
 have hs:Step [] [] w w:=Step.refl w
 have hl:(u8s d).length=32:=by rw[u8s,length_map,hd]
 by_cases hk:1≤k∧k≤32
 ·have ob:∃n:Nat,k=n:=⟨k.toNat,by omega⟩
  obtain⟨n,rfl⟩:=ob
  have hl2:(u8s (cutD d n)).length=32:=by rw[u8s,length_map,cutD_len hd (by omega)]
  have e:fitsL d n=decide (cutD d n=d):=by
   rw[fitsL,Int.toNat_natCast]
   exact decide_eq_decide.2 ⟨fun h=>h.2.2,fun h=>⟨hk.1,hk.2,h⟩⟩
  rw[e]
  refine calls (n:=20) Tryz.func89 rfl rfl rfl ?_
  refine sr<|WL.box (cs:=u8s d) rfl rfl rfl hs (fun b2 w hs=>?_)
  refine wA<|wZ<|sr<|wR ty44 rfl hl hs.a0<|wm<|wE rfl (run_call en105 rfl rfl) (cut_ok hd (by omega) (by omega) _) ?_
  rintro e w ⟨rfl,hq⟩
  refine⟨_,rfl,?_⟩
  replace hs:=hs.callE hq
  refine wm<|wx rfl rfl<|wx rfl rfl<|WL.alloc ty44 rfl hs (fun b5 w hs=>?_)
  refine WL.storeAll ty44 rfl rfl ((hl2)) (Cells1.u8s _) hs (by rfl) (fun w hs=>?_)
  refine wA<|wZ<|sr<|wm<|wV (run_bT (run_eql rfl rfl) (by rfl))<|wm<|wy<|wR ty44 rfl hl2 hs.a0<|wy<|wR ty44 rfl hl hs.a1<|wy<|wV (run_eqDig (cutD_len hd (by omega)) hd rfl rfl)<|pT<|wA<|wZ ?_
  refine CW.ret ?_
  refine fin_ret1 rfl ?_
  exact⟨rfl,hs.clear⟩
 ·have e:fitsL d k=false:=decide_eq_false (fun h=>hk ⟨h.1,h.2.1⟩)
  have hl2:(u8s zD).length=32:=rfl
  rw[e]
  refine calls (n:=20) Tryz.func89 rfl rfl rfl ?_
  refine sr<|WL.box (cs:=u8s d) rfl rfl rfl hs (fun b2 w hs=>?_)
  refine wA<|wZ<|sr<|wR ty44 rfl hl hs.a0<|wm<|wE rfl (run_call en105 rfl rfl) (cut_bad hd (by omega) _) ?_
  rintro e w ⟨rfl,hq⟩
  refine⟨_,rfl,?_⟩
  replace hs:=hs.callE hq
  refine wm<|wx rfl rfl<|wx rfl rfl<|WL.alloc ty44 rfl hs (fun b5 w hs=>?_)
  refine WL.storeAll ty44 rfl rfl ((hl2)) (Cells1.u8s _) hs (by rfl) (fun w hs=>?_)
  refine wA<|wZ<|sr<|wm<|eF<|wm<|wz<|wz<|wz<|pF<|wA<|wZ<|CW.ret ?_
  refine fin_ret1 rfl ?_
  exact⟨rfl,hs.clear⟩
theorem bld_rdig (w:World):(Instr.build 201 #[]).run Tryz.prog w=.ok (.agg (u8s zD).toArray) w:=by kernel_rfl
theorem refCut_bad{d:U8}{k:Int} (hd:d.length=32) (hk:k<1∨32<k) (w:World):CP 155 #[.agg (u8s d).toArray,.int .i64 k] w (Ret0 (.tuple #[.agg (u8s zD).toArray,.int .i64 3]) w):=by
 have hs:Step [] [] w w:=Step.refl w
 by_cases h1:k<1
 ·refine calls (n:=22) Tryz.func155 rfl rfl rfl ?_
  refine sr<|WL.box (cs:=u8s d) rfl rfl rfl hs (fun b2 w hs=>?_)
  refine WL.alloc ty201 rfl hs (fun b4 w hs=>?_)
  refine wA<|wZ<|cq<|sr<|wm<|wV (run_bT (run_lss rfl rfl) (by exact h1))<|wm<|wz<|wz<|pT<|wZ<|CW.cond rfl (fun h=>?_) (fun h=>?_)
  ·refine sr<|wV (run_build rfl (bld_rdig _))<|WL.storeAll ty201 rfl rfl ((by rfl)) (Cells1.u8s _) hs (by rfl) (fun w hs=>?_)
   refine wA<|wZ<|CW.ret ?_
   refine fin_cellTmp rfl rfl (run_loadVarN ty201 (by rfl) hs.a0) ?_
   exact⟨rfl,hs.clear⟩
  ·cases h
 ·have h2:32<k:=hk.resolve_left h1
  refine calls (n:=22) Tryz.func155 rfl rfl rfl ?_
  refine sr<|WL.box (cs:=u8s d) rfl rfl rfl hs (fun b2 w hs=>?_)
  refine WL.alloc ty201 rfl hs (fun b4 w hs=>?_)
  refine wA<|wZ<|cq<|sr<|wm<|wV (run_bF (run_lss rfl rfl) (by exact h1))<|wm<|wy<|wm<|wy<|wV (run_bT (run_gtr rfl rfl) (by exact h2))<|pF<|wZ ?_
  refine CW.cond rfl (fun h=>?_) (fun h=>?_)
  ·refine sr<|wV (run_build rfl (bld_rdig _))<|WL.storeAll ty201 rfl rfl ((by rfl)) (Cells1.u8s _) hs (by rfl) (fun w hs=>?_)
   refine wA<|wZ<|CW.ret ?_
   refine fin_cellTmp rfl rfl (run_loadVarN ty201 (by rfl) hs.a0) ?_
   exact⟨rfl,hs.clear⟩
  ·cases h
def cutM (d:(List UInt8)) (k i:Nat):(List UInt8):=d.take k++(List.replicate (i - k) 0++d.drop i)
theorem cutM_zero (d:U8) (k:Nat):cutM d k k=d:=by simp[cutM]
theorem cutM_set{d:U8}{k i:Nat} (hk:k≤i) (hi:i<d.length):(cutM d k i).set i 0=cutM d k (i+1):=by
 have h1:(d.take k).length=k:=by rw[length_take];omega
 rw[cutM,set_append,h1,if_neg (by omega),set_append,length_replicate,if_neg (by omega),Nat.sub_self,drop_eq_getElem_cons hi,set_cons_zero,cutM,show i+1 - k=(i - k)+1 by omega,replicate_succ',append_assoc]
 rfl
theorem cutM_len{d:U8}{k i:Nat} (hk:k≤i) (hi:i≤d.length):(cutM d k i).length=d.length:=by simp[cutM];omega
theorem cutM_all{d:U8}{k:Nat} (hd:d.length=32):cutM d k 32=cutD d k:=by rw[cutM,cutD,drop_of_length_le (by omega),append_nil]
theorem refCut_ok{d:U8}{k:Nat} (hd:d.length=32) (hk1:1≤k) (hk:k≤32) (w0:World):CP 155 #[.agg (u8s d).toArray,.int .i64 k] w0 (Ret0 (.tuple #[.agg (u8s (cutD d k)).toArray,.int .i64 0]) w0):=by
 have hs:Step [] [] w0 w0:=Step.refl w0
 have hl2:(u8s (cutD d k)).length=32:=by rw[u8s,length_map,cutD_len hd hk]
 refine calls (n:=22) Tryz.func155 rfl rfl rfl ?_
 refine sr<|WL.box (cs:=u8s d) rfl rfl rfl hs (fun b2 w hs=>?_)
 refine WL.alloc ty201 rfl hs (fun b4 w hs=>?_)
 refine wA<|wZ<|cq<|sr<|wm<|lF<|wm<|wy<|wm<|wy<|xF<|pF<|wZ ?_
 refine CW.cond rfl (fun h=>?_) (fun h=>?_)
 ·cases h
 ·refine ck<|cq<|sr<|wm<|wA<|wZ<|cB<|CW.loop (fun m f w'=>∃i,k≤i∧i≤32∧m=32 - i∧Step [] [(b4,blk 201 (List.replicate 32 (Value.int .u8 0))),(b2,blk 201 (u8s (cutM d k i)))] w0 w'∧Holds f [(2,pt b2),(4,pt b4),(6,.int .i64 (i:Nat))]) (m:=32 - k) ?_ ?_
  ·exact⟨k,Nat.le_refl _,hk,rfl,by rw[cutM_zero];exact hs,rfl,rfl,rfl,trivial⟩
  ·clear hs
   rintro m f w ⟨i,hi1,hi,rfl,hs,hf⟩
   have ob:=hf.chain
   obtain⟨g,rfl⟩:=ob
   refine cq<|sr<|wm<|wV (run_lss rfl rfl)<|wZ<|CW.condP rfl (fun h=>?_) (fun h=>?_)
   ·have hlt:i<32:=by omega
    have hset:(u8s (cutM d k i)).set (0+i*1) (.int .u8 0)=u8s (cutM d k (i+1)):=by
     rw[Nat.mul_one,Nat.zero_add,show(Value.int .u8 0)=.int .u8 (0:UInt8).toNat from rfl,u8s_set,cutM_set hi1 (by omega)]
    have hml:(u8s (cutM d k i)).length=32:=by rw[u8s,length_map,cutM_len hi1 (by omega),hd]
    refine ck<|cq<|cB<|cr<|wm<|wV (run_ixArrN u201 ty5 rfl rfl (by omega))<|WL.store1_1 ty5 rfl rfl (rfl) hs (by first | (simp;done) | omega | (simp only[length_append,length_replicate,length_cons,length_nil,length_set];omega) | (simp[Ent.cells,u8s];done) | exact Nat.le_of_ble_eq_true rfl) (fun w hs=>?_)
    refine wZ ?_
    replace hs:=(congrArg (fun cs=>Step [] [(b4,blk 201 (List.replicate 32 (Value.int .u8 0))),(b2,blk 201 cs)] w0 w) hset).mp hs
    refine cr<|wm<|wP ((i+1:Nat):Int)<|wA<|wZ<|(show _∧_ from⟨rfl,_,?_,i+1,by omega,by omega,rfl,hs,rfl,rfl,rfl,trivial⟩)
    omega
   ·obtain rfl:i=32:=by omega
    rw[cutM_all hd] at hs
    refine CW.exit<|sr<|wR ty201 rfl hl2 hs.a1<|WL.storeAll ty201 rfl rfl ((hl2)) (Cells1.u8s _) hs (by rfl) (fun w hs=>?_)
    refine wA<|wZ<|CW.ret ?_
    refine fin_cellTmp rfl rfl (run_loadVarN ty201 (by assumption) hs.a0) ?_
    exact⟨rfl,hs.clear⟩
theorem refFits_spec{d:U8}{k:Int} (hd:d.length=32) (w:World):CP 112 #[.agg (u8s d).toArray,.int .i64 k] w (Ret0 (.bool (fitsL d k)) w):=by
 have hs:Step [] [] w w:=Step.refl w
 have hl:(u8s d).length=32:=by rw[u8s,length_map,hd]
 by_cases hk:1≤k∧k≤32
 ·have ob:∃n:Nat,k=n:=⟨k.toNat,by omega⟩
  obtain⟨n,rfl⟩:=ob
  have hl2:(u8s (cutD d n)).length=32:=by rw[u8s,length_map,cutD_len hd (by omega)]
  have e:fitsL d n=decide (cutD d n=d):=by
   rw[fitsL,Int.toNat_natCast]
   exact decide_eq_decide.2 ⟨fun h=>h.2.2,fun h=>⟨hk.1,hk.2,h⟩⟩
  rw[e]
  refine calls (n:=20) Tryz.func112 rfl rfl rfl ?_
  refine sr<|WL.box (cs:=u8s d) rfl rfl rfl hs (fun b2 w hs=>?_)
  refine wA<|wZ<|sr<|wR ty201 rfl hl hs.a0<|wm<|wE rfl (run_call en155 rfl rfl) (refCut_ok hd (by omega) (by omega) _) ?_
  rintro e w ⟨rfl,hq⟩
  refine⟨_,rfl,?_⟩
  replace hs:=hs.callE hq
  refine wm<|wx rfl rfl<|wx rfl rfl<|WL.alloc ty201 rfl hs (fun b5 w hs=>?_)
  refine WL.storeAll ty201 rfl rfl ((hl2)) (Cells1.u8s _) hs (by rfl) (fun w hs=>?_)
  refine wA<|wZ<|sr<|wm<|wV (run_bT (run_eql rfl rfl) (by rfl))<|wm<|wy<|wR ty201 rfl hl2 hs.a0<|wy<|wR ty201 rfl hl hs.a1<|wy<|wV (run_eqRdig (cutD_len hd (by omega)) hd rfl rfl)<|pT<|wA<|wZ ?_
  refine CW.ret ?_
  refine fin_ret1 rfl ?_
  exact⟨rfl,hs.clear⟩
 ·have e:fitsL d k=false:=decide_eq_false (fun h=>hk ⟨h.1,h.2.1⟩)
  have hl2:(u8s zD).length=32:=rfl
  rw[e]
  refine calls (n:=20) Tryz.func112 rfl rfl rfl ?_
  refine sr<|WL.box (cs:=u8s d) rfl rfl rfl hs (fun b2 w hs=>?_)
  refine wA<|wZ<|sr<|wR ty201 rfl hl hs.a0<|wm<|wE rfl (run_call en155 rfl rfl) (refCut_bad hd (by omega) _) ?_
  rintro e w ⟨rfl,hq⟩
  refine⟨_,rfl,?_⟩
  replace hs:=hs.callE hq
  refine wm<|wx rfl rfl<|wx rfl rfl<|WL.alloc ty201 rfl hs (fun b5 w hs=>?_)
  refine WL.storeAll ty201 rfl rfl ((hl2)) (Cells1.u8s _) hs (by rfl) (fun w hs=>?_)
  refine wA<|wZ<|sr<|wm<|eF<|wm<|wz<|wz<|wz<|pF<|wA<|wZ<|CW.ret ?_
  refine fin_ret1 rfl ?_
  exact⟨rfl,hs.clear⟩
def frontL (x:(List UInt8)) (k:Nat):(List UInt8):=cutD (shaL x) k
theorem refFront_spec{v:Value}{x:U8}{k:Nat} (w0:World) (hv:Sl w0 1 v x.length (u8s x)) (hsz:x.length<1099511627776) (hk1:1≤k) (hk:k≤32) :
  CP 111 #[v,.int .i64 k] w0 (Ret0 (.agg (u8s (frontL x k)).toArray) w0):=by
 have hs:Step [] [] w0 w0:=Step.refl w0
 have hl2:(u8s (cutD (shaL x) k)).length=32:=by rw[u8s,length_map,cutD_len (shaL_len x) hk]
 refine calls (n:=15) Tryz.func111 rfl rfl rfl ?_
 refine sr<|WL.alloc ty201 rfl hs (fun b4 w hs=>?_)
 refine wZ<|sr<|wm<|wE rfl (run_call en156 rfl rfl) (refOf_spec _ (hv.step0 hs) hsz) ?_
 rintro e w ⟨rfl,hq⟩
 refine⟨_,rfl,?_⟩
 replace hs:=hs.callE hq
 refine wm<|wE rfl (run_call en155 rfl rfl) (refCut_ok (shaL_len x) hk1 hk _) ?_
 rintro e w ⟨rfl,hq⟩
 refine⟨_,rfl,?_⟩
 replace hs:=hs.callE hq
 refine wm<|wx rfl rfl<|wx rfl rfl<|WL.alloc ty201 rfl hs (fun b5 w hs=>?_)
 refine WL.storeAll ty201 rfl rfl ((hl2)) (Cells1.u8s _) hs (by rfl) (fun w hs=>?_)
 refine wA<|wZ<|sr<|wR ty201 rfl hl2 hs.a0<|WL.storeAll_1 ty201 rfl rfl ((hl2)) (Cells1.u8s _) hs (by rfl) (fun w hs=>?_)
 refine wZ<|CW.ret ?_
 refine fin_cell1 rfl rfl (run_loadVarN ty201 (by assumption) hs.a1) ?_
 exact⟨rfl,hs.clear⟩
end Go.Gx
namespace Go.Gx
open Go.Proofs List
attribute [local irreducible] shaL cutD
theorem Step.aAny{S:List Nat}{L:OL}{w0 w:World}{b:Nat}{T:TypeId}{cs:List Value} (hs:Step S L w0 w) (h:(b,blk T cs)∈L):At w b 0 cs:=At.of_blk (hs.get h)
theorem digest_spec{bs:Nat}{v:Value}{x:U8}{k:Nat} (w0:World) (hW:w0.cell? ⟨bs,0,none⟩=some (.int .i64 k)) (hv:Sl w0 1 v x.length (u8s x)) (hcap:Room v) (hsz:x.length<1099511627776) (hk1:1≤k) (hk:k≤32) :
  CP 91 #[pt bs,v] w0 (Ret0 (.agg (u8s (frontL x k)).toArray) w0):=by
 have hs:Step [] [] w0 w0:=Step.refl w0
 have hl2:(u8s (cutD (shaL x) k)).length=32:=by rw[u8s,length_map,cutD_len (shaL_len x) hk]
 have hWs:∀{L:OL}{w:World},Step [] L w0 w→w.cell? ⟨bs,0,none⟩=some (.int .i64 k):=fun {L w} h=>by
  have hat:At w0 bs 0 [.int .i64 k]:=fun j u hj=>by
   match j,hj with
   | 0,hj=>cases hj;exact hW
  exact(hat.step h (by simp)).cell (j:=0) rfl
 have hc2:Cells1 (u8s (cutD (shaL x) k)):=Cells1.u8s _
 have ob:=Sl.form hv
 obtain⟨av,cv,rfl⟩:=ob
 refine calls (n:=19) Tryz.func91 rfl rfl rfl ?_
 refine sr<|WL.alloc ty44 rfl hs (fun b4 w hs=>?_)
 refine wZ<|cq<|CW.any (A:=fun w=>Step [] [] w0 w) (C:=fun w=>Step [] [] w0 w) 1000000 14 mixedP rfl ?_
 replace hs:=hs.drew
 refine aM 0 rfl<|aM 3 rfl<|aN 4 rfl rfl<|aF 5 rfl 0 u140 rfl ty3 rfl<|aL 6 rfl ty3 rfl (fun w hs=>hWs hs)<|AL.two 1 11 (by kernel_rfl) rfl rfl (hs.clear) (hs.clear) ?_ ?_
 ·refine WL.buildSlice (cs:=[.slice av x.length cv]) u24 ty76 rfl (by decide) rfl (by rfl) rfl hs (fun b9 w hs=>?_)
  refine wZ<|⟨rfl,?_⟩
  refine AL.two 2 11 (by kernel_rfl) rfl rfl (hs.clear) (hs.clear) ?_ ?_
  ·refine wE rfl (run_call en135 rfl rfl) (of_spec _ (Step.aAny (T:=76) hs (by simp)) (hv.step0 hs) hcap (by omega)) ?_
   rintro e w ⟨rfl,hq⟩
   refine⟨_,rfl,?_⟩
   replace hs:=hs.callE hq
   refine wZ<|⟨rfl,?_⟩
   refine AL.two 7 11 (by kernel_rfl) rfl rfl (hs.clear) (hs.clear) ?_ ?_
   ·refine wE rfl (run_call en105 rfl rfl) (cut_ok (shaL_len x) hk1 hk _) ?_
    rintro e w ⟨rfl,hq⟩
    refine⟨_,rfl,?_⟩
    replace hs:=hs.callE hq
    refine wZ<|⟨rfl,?_⟩
    refine aM 8 rfl<|aX 9 rfl rfl rfl<|aX 10 rfl rfl rfl<|AL.one 11 (by kernel_rfl) rfl (hs.clear) (hs.clear) ?_
    refine WL.alloc ty44 rfl hs (fun b5 w hs=>?_)
    refine wZ<|⟨rfl,?_⟩
    refine AL.one 12 (by kernel_rfl) rfl (hs.clear) (hs.clear) ?_
    refine WL.storeAll ty44 rfl rfl (hl2) (Cells1.u8s _) hs (by rfl) (fun w hs=>?_)
    refine wZ<|⟨rfl,?_⟩
    refine aA 13 rfl<|AL.end (by kernel_rfl) (hs.clear) (hs.clear) ?_
    refine sr<|wR ty44 rfl hl2 (by exact hs.a0)<|WL.storeAll_2 ty44 rfl rfl ((hl2)) (Cells1.u8s _) hs (by rfl) (fun w hs=>?_)
    refine wZ<|CW.ret ?_
    refine fin_cell1 rfl rfl (run_loadVarN ty44 (by assumption) hs.a2) ?_
    exact⟨rfl,hs.clear⟩
   ·refine WL.alloc ty44 rfl hs (fun b5 w hs=>?_)
    refine wZ<|⟨rfl,?_⟩
    refine AL.one 7 (by kernel_rfl) rfl (hs.clear) (hs.clear) ?_
    refine wE rfl (run_call en105 rfl rfl) (cut_ok (shaL_len x) hk1 hk _) ?_
    rintro e w ⟨rfl,hq⟩
    refine⟨_,rfl,?_⟩
    replace hs:=hs.callE hq
    refine wZ<|⟨rfl,?_⟩
    refine aM 8 rfl<|aX 9 rfl rfl rfl<|aX 10 rfl rfl rfl<|AL.one 12 (by kernel_rfl) rfl (hs.clear) (hs.clear) ?_
    refine WL.storeAll ty44 rfl rfl (hl2) (Cells1.u8s _) hs (by rfl) (fun w hs=>?_)
    refine wZ<|⟨rfl,?_⟩
    refine aA 13 rfl<|AL.end (by kernel_rfl) (hs.clear) (hs.clear) ?_
    refine sr<|wR ty44 rfl hl2 (by exact hs.a0)<|WL.storeAll_2 ty44 rfl rfl ((hl2)) (Cells1.u8s _) hs (by rfl) (fun w hs=>?_)
    refine wZ<|CW.ret ?_
    refine fin_cell1 rfl rfl (run_loadVarN ty44 (by assumption) hs.a2) ?_
    exact⟨rfl,hs.clear⟩
  ·refine WL.alloc ty44 rfl hs (fun b5 w hs=>?_)
   refine wZ<|⟨rfl,?_⟩
   refine AL.one 2 (by kernel_rfl) rfl (hs.clear) (hs.clear) ?_
   refine wE rfl (run_call en135 rfl rfl) (of_spec _ (Step.aAny (T:=76) hs (by simp)) (hv.step0 hs) hcap (by omega)) ?_
   rintro e w ⟨rfl,hq⟩
   refine⟨_,rfl,?_⟩
   replace hs:=hs.callE hq
   refine wZ<|⟨rfl,?_⟩
   refine AL.one 7 (by kernel_rfl) rfl (hs.clear) (hs.clear) ?_
   refine wE rfl (run_call en105 rfl rfl) (cut_ok (shaL_len x) hk1 hk _) ?_
   rintro e w ⟨rfl,hq⟩
   refine⟨_,rfl,?_⟩
   replace hs:=hs.callE hq
   refine wZ<|⟨rfl,?_⟩
   refine aM 8 rfl<|aX 9 rfl rfl rfl<|aX 10 rfl rfl rfl<|AL.one 12 (by kernel_rfl) rfl (hs.clear) (hs.clear) ?_
   refine WL.storeAll ty44 rfl rfl (hl2) (Cells1.u8s _) hs (by rfl) (fun w hs=>?_)
   refine wZ<|⟨rfl,?_⟩
   refine aA 13 rfl<|AL.end (by kernel_rfl) (hs.clear) (hs.clear) ?_
   refine sr<|wR ty44 rfl hl2 (by exact hs.a0)<|WL.storeAll_2 ty44 rfl rfl ((hl2)) (Cells1.u8s _) hs (by rfl) (fun w hs=>?_)
   refine wZ<|CW.ret ?_
   refine fin_cell1 rfl rfl (run_loadVarN ty44 (by assumption) hs.a2) ?_
   exact⟨rfl,hs.clear⟩
 ·refine WL.alloc ty44 rfl hs (fun b5 w hs=>?_)
  refine wZ<|⟨rfl,?_⟩
  refine AL.one 1 (by kernel_rfl) rfl (hs.clear) (hs.clear) ?_
  refine WL.buildSlice (cs:=[.slice av x.length cv]) u24 ty76 rfl (by decide) rfl (by rfl) rfl hs (fun b9 w hs=>?_)
  refine wZ<|⟨rfl,?_⟩
  refine AL.one 2 (by kernel_rfl) rfl (hs.clear) (hs.clear) ?_
  refine wE rfl (run_call en135 rfl rfl) (of_spec _ (Step.aAny (T:=76) hs (by simp)) (hv.step0 hs) hcap (by omega)) ?_
  rintro e w ⟨rfl,hq⟩
  refine⟨_,rfl,?_⟩
  replace hs:=hs.callE hq
  refine wZ<|⟨rfl,?_⟩
  refine AL.one 7 (by kernel_rfl) rfl (hs.clear) (hs.clear) ?_
  refine wE rfl (run_call en105 rfl rfl) (cut_ok (shaL_len x) hk1 hk _) ?_
  rintro e w ⟨rfl,hq⟩
  refine⟨_,rfl,?_⟩
  replace hs:=hs.callE hq
  refine wZ<|⟨rfl,?_⟩
  refine aM 8 rfl<|aX 9 rfl rfl rfl<|aX 10 rfl rfl rfl<|AL.one 12 (by kernel_rfl) rfl (hs.clear) (hs.clear) ?_
  refine WL.storeAll_1 ty44 rfl rfl (hl2) (Cells1.u8s _) hs (by rfl) (fun w hs=>?_)
  refine wZ<|⟨rfl,?_⟩
  refine aA 13 rfl<|AL.end (by kernel_rfl) (hs.clear) (hs.clear) ?_
  refine sr<|wR ty44 rfl hl2 (by exact hs.a1)<|WL.storeAll_2 ty44 rfl rfl ((hl2)) (Cells1.u8s _) hs (by rfl) (fun w hs=>?_)
  refine wZ<|CW.ret ?_
  refine fin_cell1 rfl rfl (run_loadVarN ty44 (by assumption) hs.a2) ?_
  exact⟨rfl,hs.clear⟩
end Go.Gx
namespace Go.Gx
open Go.Proofs List
def ents (M:List ((List UInt8)×Value×Nat)):List MapEntry:=M.map fun p=>{ key:=.agg (u8s p.1).toArray,val:=p.2.1,born:=p.2.2 }
def Keys32 (M:List ((List UInt8)×Value×Nat)):Prop:=∀p∈M,p.1.length=32
def findD (d:(List UInt8)):List ((List UInt8)×Value×Nat)→Nat→Option (Nat×Value)
 | [],_=>none
 | p::M,i=>if d=p.1 then some (i,p.2.1) else findD d M (i+1)
theorem run_findAsking{d:U8} (hd:d.length=32) (w:World):∀(M:List (List UInt8×Value×Nat)) (i:Nat),Keys32 M→(Instr.findAsking 44 (.agg (u8s d).toArray) (ents M) i).run Tryz.prog w=.ok (findD d M i) w
 | [],i,_=>rfl
 | p::M,i,h=>by
  have hp:p.1.length=32:=h p (by simp)
  have he:(Op.equal 44 (.agg (u8s d).toArray) (.agg (u8s p.1).toArray)).run Tryz.prog w=.ok (decide (d=p.1)) w:=
   run_equal_agg u8l_iff dig_key (dig_formed hd) (dig_formed hp) (dig_lits hd) (dig_lits hp)
  have ih:=run_findAsking hd w M (i+1) (fun q hq=>h q (by simp[hq]))
  rw[ents,map_cons,Instr.findAsking]
  simp only[Sem.run_bind,he,Result.andThen_ok,findD]
  by_cases hx:d=p.1
  ·simp[hx]
  ·simp only[hx,decide_false,Bool.false_eq_true,if_false]
   exact ih
theorem run_findKey{d:U8} (hd:d.length=32) (w:World){M:List (List UInt8×Value×Nat)} (h:Keys32 M):(Instr.findKey 44 (.agg (u8s d).toArray) (ents M)).run Tryz.prog w=.ok (findD d M 0) w:=by
 rw[Instr.findKey]
 simp only[Sem.run_bind,run_underlying u44,Result.andThen_ok]
 cases M with
 | nil=>rfl
 | cons p M=>
  have:=run_findAsking hd w (p::M) 0 h
  simpa[ents,Instr.findNow,Instr.sameNow] using this
theorem run_keyOk{d:U8} (hd:d.length=32) (em:Bool) (w:World):(Instr.checkKey em 10000 44 (.agg (u8s d).toArray)).run Tryz.prog w=.ok () w:=
 run_checkKey_deep em 9995 5 44 dig_key w 4 _ _ (dig_formed hd) (by simpa[Value.cells] using dig_lits hd)
section
variable{f:Slots}{w:World}{dd:Option Tmp}{ty:TypeId}{pos:String}{af:Array Edge}{x y:Operand}{T E:TypeId}{M:List (List UInt8×Value×Nat)}{d:U8}{r clock:Nat}{z:Value}
theorem run_lookupD (ht:Tryz.prog.underlying T=some (.map 44 E)) (hz:(zeroValue E).run Tryz.prog w=.ok z w) (hM:Keys32 M) (hd:d.length=32) (hx:ev f x=.map (some r)) (hy:ev f y=.agg (u8s d).toArray) (hb:w.heap[r]?=some (.map (ents M).toArray clock)) :
  (execOp (ev f) ⟨dd,.lookup T x y true,ty,pos,af,none⟩).run Tryz.prog w=.ok (.value (.tuple #[((findD d M 0).map (·.2)).getD z,.bool (findD d M 0).isSome])) w:=by
 have h1:=run_findKey hd w hM
 have h2:=run_keyOk hd (ents M).toArray.isEmpty w
 have hg:(getObj r).run Tryz.prog w=.ok (.map (ents M).toArray clock) w:=by simp[getObj,Sem.run,hb]
 simp only[execOp,hx,hy,Instr.lookup,Sem.run_bind,run_underlying ht,Result.andThen_ok,hg,Sem.run_pure,h2,h1]
 cases hf:findD d M 0 with
 | none=>simp[hz]
 | some p=>simp
end
theorem sameBits_u8 (l:U8):Instr.sameBits 10000 (.agg (u8s l).toArray) (.agg (u8s l).toArray)=true:=by
 have h:∀(l:U8),(((u8s l).zip (u8s l)).all fun(x,y)=>Instr.sameBits 9999 x y)=true:=fun l=>by
  induction l with
  | nil=>rfl
  | cons c l ih=>
   simp only[u8s,map_cons,zip_cons_cons,all_cons,Bool.and_eq_true]
   exact⟨by simp[Instr.sameBits],ih⟩
 rw[Instr.sameBits]
 simpa using h l
def updD (d:(List UInt8)) (v:Value):List ((List UInt8)×Value×Nat)→List ((List UInt8)×Value×Nat)
 | []=>[]
 | p::M=>if d=p.1 then (p.1,v,p.2.2)::M else p::updD d v M
theorem findD_shift{d:U8}:∀{M:List (List UInt8×Value×Nat)}{i:Nat},findD d M (i+1)=(findD d M i).map fun p=>(p.1+1,p.2)
 | [],_=>rfl
 | p::M,i=>by
  unfold findD
  by_cases h:d=p.1
  ·simp[h]
  ·rw[if_neg h,if_neg h];exact findD_shift
theorem ents_modify{d:U8}{v u:Value}:∀{M:List (List UInt8×Value×Nat)}{j:Nat},findD d M 0=some (j,u)→(ents M).modify j (fun e=>{ e with key:=.agg (u8s d).toArray,val:=v })=ents (updD d v M)∧((ents M)[j]?).map (·.key)=some (.agg (u8s d).toArray)
 | [],j,h=>by simp[findD] at h
 | p::M,j,h=>by
  unfold findD at h
  by_cases hp:d=p.1
  ·rw[if_pos hp] at h
   injection h with h
   injection h with h1 h2
   subst h1
   simp[ents,updD,hp]
  ·rw[if_neg hp,findD_shift] at h
   cases hf:findD d M 0 with
   | none=>rw[hf] at h;cases h
   | some q=>
    obtain⟨j',u'⟩:=q
    rw[hf] at h
    simp only[Option.map_some,Option.some.injEq,Prod.mk.injEq] at h
    obtain⟨rfl,rfl⟩:=h
    have ih:=ents_modify (v:=v) hf
    simp only[ents,updD,hp,if_false,map_cons,modify_succ_cons,getElem?_cons_succ]
    exact⟨congrArg (_::·) ih.1,ih.2⟩
def putM (d:(List UInt8)) (v:Value) (clock:Nat) (M:List ((List UInt8)×Value×Nat)):List ((List UInt8)×Value×Nat):=if (findD d M 0).isSome then updD d v M else M++[(d,v,clock)]
def putC (d:(List UInt8)) (clock:Nat) (M:List ((List UInt8)×Value×Nat)):Nat:=if (findD d M 0).isSome then clock else clock+1
def mapObj (M:List ((List UInt8)×Value×Nat)) (clock:Nat):Obj:=.map (ents M).toArray clock
theorem run_putD{T E:TypeId}{w:World}{M:List (List UInt8×Value×Nat)}{d:U8}{r clock:Nat}{v:Value} (ht:Tryz.prog.underlying T=some (.map 44 E)) (hM:Keys32 M) (hd:d.length=32) (hb:w.heap[r]?=some (mapObj M clock)) :
  (Instr.mapUpdate T (.map (some r)) (.agg (u8s d).toArray) v).run Tryz.prog w = .ok () { w with heap := w.heap.setIfInBounds r (mapObj (putM d v clock M) (putC d clock M)) } := by
 have h1:=run_findKey hd w hM
 have h2:=run_keyOk hd false w
 have hg:=MapKept.run_getObj_map (P:=Tryz.prog) hb
 simp only[Instr.mapUpdate,Sem.run_bind,run_underlying ht,Result.andThen_ok,hg,h2,h1]
 cases hf:findD d M 0 with
 | none=>
  simp only[MapKept.run_setObj_map _ hb]
  simp[putM,putC,hf,mapObj,ents]
 | some p=>
  obtain⟨j,u⟩:=p
  have ob:=ents_modify (v:=v) hf
  obtain⟨hm,hk⟩:=ob
  have hk':((ents M).toArray[j]?.map (·.key)).getD (.agg (u8s d).toArray)=.agg (u8s d).toArray:=by
   rw[getElem?_toArray,hk];rfl
  have hs:(Instr.keyThatStays (((ents M).toArray[j]?.map (·.key)).getD (.agg (u8s d).toArray)) (.agg (u8s d).toArray)).run Tryz.prog w=.ok (.agg (u8s d).toArray) w:=by
   rw[hk',Instr.keyThatStays,if_pos (sameBits_u8 d)];rfl
  simp only[Sem.run_bind,hs,Result.andThen_ok,MapKept.run_setObj_map _ hb]
  have e:(ents M).toArray.modify j (fun e=>{ e with key:=.agg (u8s d).toArray,val:=v })=(ents (updD d v M)).toArray:=by
   rw[←hm]
   apply Array.ext'
   simp
  simp[putM,putC,hf,mapObj,e]
theorem Step.setO{S:List Nat}{L:OL}{w w':World}{b:Nat}{o:Obj} (h:Step S ((b,o)::L) w w') (o':Obj):Step S ((b,o')::L) w { w' with heap:=w'.heap.setIfInBounds b o' }:=by
 have hb:=h.has (b,o) (by simp)
 have hlt:=lt_of_get hb
 have hc:Step ([(b,o)].map (·.1)) [(b,o')] w' { w' with heap:=w'.heap.setIfInBounds b o' }:=by
  refine⟨⟨rfl,rfl,rfl,by simp,fun k hk hn=>?_,Nat.le_refl _⟩,by simp,?_,by simp⟩
  ·have hne:b≠k:=fun e=>hn (by simp[e])
   simp[Array.getElem?_setIfInBounds,hne]
  ·intro p hp
   simp at hp
   subst hp
   simp[hlt]
 exact Step.call (L1:=[(b,o)]) h hc
section
variable{ops:Array Oper}{n:Nat}{rest:List Oper}{f:Slots}{ds:List Deferred}{w w0:World}{S:List Nat}{L:OL}{Q:Post}{ty:TypeId}{pos:String}{af:Array Edge}{x y k:Operand}{T E:TypeId}
theorem WL.mapPut{M:List (List UInt8×Value×Nat)}{d:U8}{r clock:Nat}{v:Value} (ht:Tryz.prog.underlying T=some (.map 44 E)) (hx:ev f x=.map (some r)) (hk:ev f k=.agg (u8s d).toArray) (hy:ev f y=v)
  (hM:Keys32 M) (hd:d.length=32) (hs:Step S ((r,mapObj M clock)::L) w0 w) (h:∀w',Step S ((r,mapObj (putM d v clock M) (putC d clock M))::L) w0 w'→WL Tryz.prog ops Q n rest f ds w') :
  WL Tryz.prog ops Q n (⟨none, .mapUpdate T x k y, ty, pos, af, none⟩ :: rest) f ds w := by
 refine WL.skip ?_ (h _ (hs.setO _))
 have h1 := run_putD (v := v) ht hM hd hs.hd
 simp only[execOp,hx,hk,hy,Sem.run_bind,h1,Result.andThen_ok]
 rfl
end
def delM (d:(List UInt8)):List ((List UInt8)×Value×Nat)→List ((List UInt8)×Value×Nat)
 | []=>[]
 | p::M=>if d=p.1 then M else p::delM d M
theorem delM_none{d:U8}:∀{M:List (List UInt8×Value×Nat)}{i:Nat},findD d M i=none→delM d M=M
 | [],_,_=>rfl
 | p::M,i,h=>by
  unfold findD at h
  by_cases hp:d=p.1
  ·rw[if_pos hp] at h;cases h
  ·rw[if_neg hp] at h
   rw[delM,if_neg hp,delM_none h]
theorem ents_erase{d:U8}{u:Value}:∀{M:List (List UInt8×Value×Nat)}{j:Nat},findD d M 0=some (j,u)→(ents M).eraseIdx j=ents (delM d M)
 | [],j,h=>by simp[findD] at h
 | p::M,j,h=>by
  unfold findD at h
  by_cases hp:d=p.1
  ·rw[if_pos hp] at h
   injection h with h
   injection h with h1 h2
   subst h1
   simp[ents,delM,hp]
  ·rw[if_neg hp,findD_shift] at h
   cases hf:findD d M 0 with
   | none=>rw[hf] at h;cases h
   | some q=>
    obtain⟨j',u'⟩:=q
    rw[hf] at h
    simp only[Option.map_some,Option.some.injEq,Prod.mk.injEq] at h
    obtain⟨rfl,rfl⟩:=h
    have ih:=ents_erase hf
    simp only[ents,delM,hp,if_false,map_cons,eraseIdx_cons_succ]
    exact congrArg (_::·) ih
theorem run_delD{T E ty:TypeId}{w:World}{M:List (List UInt8×Value×Nat)}{d:U8}{r clock:Nat}{K:TypeId} (ht:Tryz.prog.underlying T=some (.map 44 E)) (hM:Keys32 M) (hd:d.length=32) (hb:w.heap[r]?=some (mapObj M clock)) :
  (Builtin.delete_ #[T, K] ty #[.map (some r), .agg (u8s d).toArray]).run Tryz.prog w = .ok (.tuple #[]) { w with heap := w.heap.setIfInBounds r (mapObj (delM d M) clock) } := by
 have h1:=run_findKey hd w hM
 have h2:=run_keyOk hd (ents M).toArray.isEmpty w
 have hg:=MapKept.run_getObj_map (P:=Tryz.prog) hb
 simp only[Builtin.delete_,getElem?_toArray,getElem?_cons_zero,getElem?_cons_succ,Sem.run_bind,run_underlying ht,Result.andThen_ok,hg,h2,h1]
 cases hf:findD d M 0 with
 | none=>
  rw[delM_none hf]
  simp only[Sem.run_bind,MapKept.run_setObj_map _ hb,Result.andThen_ok]
  rfl
 | some p=>
  obtain⟨j,u⟩:=p
  have hm:=ents_erase hf
  have e:(ents M).toArray.eraseIdxIfInBounds j=(ents (delM d M)).toArray:=by
   rw[←hm]
   apply Array.ext'
   simp
  simp only[Sem.run_bind,e,MapKept.run_setObj_map _ hb,Result.andThen_ok]
  rfl
section
variable{ops:Array Oper}{n:Nat}{rest:List Oper}{f:Slots}{ds:List Deferred}{w w0:World}{S:List Nat}{L:OL}{Q:Post}{ty:TypeId}{pos:String}{af:Array Edge}{x y k:Operand}{T E K:TypeId}{dd:Option Tmp}
theorem WL.mapDel{M:List (List UInt8×Value×Nat)}{d:U8}{r clock:Nat} (ht:Tryz.prog.underlying T=some (.map 44 E)) (hx:ev f x=.map (some r)) (hk:ev f k=.agg (u8s d).toArray)
  (hM:Keys32 M) (hd:d.length=32) (hs:Step S ((r,mapObj M clock)::L) w0 w) (h:∀w',Step S ((r,mapObj (delM d M) clock)::L) w0 w'→WL Tryz.prog ops Q n rest f ds w') :
  WL Tryz.prog ops Q n (⟨none, .call { callee := .builtin .delete, args := #[x, k], argTypes := #[T, K] }, ty, pos, af, none⟩ :: rest) f ds w := by
 refine WL.drop (v:=.tuple #[]) ?_ (h _ (hs.setO _))
 have h1 := run_delD (K := K) (ty := ty) ht hM hd hs.hd
 simp only[execOp,resolve,invoke,builtin,Sem.run_bind,Sem.run_pure,Result.andThen_ok,map_toArray,map_cons,map_nil,hx,hk,h1]
theorem run_lenD{M:List (List UInt8×Value×Nat)}{r clock:Nat} (ht:Tryz.prog.underlying T=some (.map 44 E)) (hx:ev f x=.map (some r)) (hb:w.heap[r]?=some (mapObj M clock)) :
  (execOp (ev f) ⟨dd,.call { callee:=.builtin .len,args:=#[x],argTypes:=#[T] },ty,pos,af,none⟩).run Tryz.prog w=.ok (.value (.int .i64 (M.length:Nat))) w:=by
 have hg:=MapKept.run_getObj_map (P:=Tryz.prog) hb
 simp[execOp,resolve,invoke,builtin,hx,Builtin.len_,run_underlying ht,hg,goInt,ents]
theorem WL.makeMapD{d:Nat} (hd:Nat.blt d n=true) (hs:Step S L w0 w) (h:∀b w',Step S ((b,mapObj [] 0)::L) w0 w'→WL Tryz.prog ops Q n rest (upd f d (.map (some b))) ds w') :
  WL Tryz.prog ops Q n (⟨some d,.makeMap T none,ty,pos,af,none⟩::rest) f ds w:=by
 refine WL.val hd (v:=.map (some w.heap.size)) (w':=w.alloc (mapObj [] 0)) ?_ (h _ _ (hs.alloc _))
 simp[execOp,Instr.makeMap,newObj]
 rfl
end
theorem run_nilSl{P:Program}{f:Slots}{w:World}{d:Option Tmp}{ty:TypeId}{pos:String}{af:Array Edge}{x:Operand}{T T' E:TypeId}{a:Option Addr}{n c:Nat} (ht:P.underlying T=some (.slice E)) (hx:ev f x=.slice a n c) :
  (execOp (ev f) ⟨d,.binOp .eql T x (.const (.slice none 0 0)) T',ty,pos,af,none⟩).run P w=.ok (.value (.bool a.isNone)) w:=by
 have h:=run_equal_slice_nil (P:=P) w T E a n c ht
 have e:ev f (.const (.slice none 0 0))=.slice none 0 0:=rfl
 simp[execOp,hx,e,eqGuard_at_slice,binOp,h]
theorem clone_spec{v:Value}{s:U8} (w0:World) (hv:Sl w0 1 v s.length (u8s s)) (hs1:s.length≤140737488355328) :
  CP 83 #[v] w0 fun e w'=>∃v' Lv,e=.returned v'∧OwnSl 5 1 v' s.length (u8s s) Lv∧Step [] Lv w0 w':=by
 have hs:Step [] [] w0 w0:=Step.refl w0
 have hcase:(s=[]∧∃c,v=.slice none s.length c)∨∃A c,v=.slice (some A) s.length c:=by
  have ob:=id hv
  obtain⟨_,⟨a,c,rfl,h0⟩ | ⟨b,off,c,rfl,hat⟩⟩:=ob
  ·cases a with
   | none=>exact .inl ⟨eq_nil_of_length_eq_zero h0,_,rfl⟩
   | some A=>exact .inr ⟨_,_,rfl⟩
  ·exact .inr ⟨_,_,rfl⟩
 obtain⟨rfl,c,rfl⟩ | ⟨A,c,rfl⟩:=hcase
 ·skip
  refine calls (n:=8) Tryz.func83 rfl rfl rfl ?_
  refine sr<|wA<|wZ<|cq<|sr<|wm<|wV (run_nilSl u76 rfl)<|wZ<|cT rfl<|sr<|wA<|wZ ?_
  refine CW.ret ?_
  refine fin_ret1 rfl ?_
  exact⟨_,[],rfl,.nil _ _,hs⟩
 ·refine calls (n:=8) Tryz.func83 rfl rfl rfl ?_
  refine sr<|wA<|wZ<|cq<|sr<|wm<|wV (run_nilSl u76 rfl)<|wZ<|cF rfl<|ck<|sr ?_
  refine WL.buildSlice u76 ty5 rfl (by decide) rfl (by rfl) rfl hs (fun b5 w hs=>?_)
  refine wm<|WL.append u76 u76 ty5 rfl (by decide) rfl rfl (.mk (xs:=[]) rfl) (hs) (hv.step0 hs) (Cells1.u8s s) (by omega) rfl (fun v7 Lv7 w hv7 hs=>?_)
  refine wA<|wZ<|CW.ret ?_
  refine fin_ret1 rfl ?_
  refine⟨_,_,rfl,?_,hs.dropR⟩
  have h2:=hv7
  rw[Nat.zero_add,nil_append] at h2
  exact h2
theorem equal_spec{u v:Value}{a b:U8} (w0:World) (hu:Sl w0 1 u a.length (u8s a)) (hv:Sl w0 1 v b.length (u8s b)):CP 92 #[u,v] w0 (Ret0 (.bool (decide (a=b))) w0):=by
 have hs:Step [] [] w0 w0:=Step.refl w0
 refine calls (n:=10) Tryz.func92 rfl rfl rfl ?_
 refine sr<|wA<|wZ<|sr<|wm<|wV (run_toString u76 u9 u5 rfl (hu.step0 hs))<|wm<|wV (run_toString u76 u9 u5 rfl (hv.step0 hs))<|wV (run_strEq rfl rfl)<|wA<|wZ<|CW.ret ?_
 refine fin_ret1 rfl ?_
 exact⟨rfl,hs⟩
theorem cost_spec{v:Value}{x:U8} (w0:World) (hv:Sl w0 1 v x.length (u8s x)) (hsz:x.length<1099511627776):CP 88 #[v] w0 (Ret0 (.int .i64 ((x.length+32:Nat):Int)) w0):=by
 have hs:Step [] [] w0 w0:=Step.refl w0
 have ob:=Sl.form hv
 obtain⟨av,cv,rfl⟩:=ob
 refine calls (n:=6) Tryz.func88 rfl rfl rfl ?_
 refine sr<|wA<|wZ<|sr<|wm<|wL u76 rfl<|wP ((x.length+32:Nat):Int)<|wA<|wZ<|CW.ret ?_
 refine fin_ret1 rfl ?_
 exact⟨rfl,hs⟩
theorem zBlob (w:World):(zeroValue 158).run Tryz.prog w=.ok (.agg #[.slice none 0 0,.int .i64 0]) w:=by kernel_rfl
theorem capable_spec (c:Int) (w:World):CP 104 #[.int .i64 c] w (Ret0 (.bool (decide (0≤c∧c≤67108864))) w):=by
 have hs:Step [] [] w w:=Step.refl w
 by_cases h0:0≤c
 ·by_cases h1:c≤67108864
  ·rw[decide_eq_true ⟨h0,h1⟩]
   refine calls (n:=9) Tryz.func104 rfl rfl rfl ?_
   refine sr<|wA<|wZ<|sr<|wm<|wV (run_bT (run_geq rfl rfl) (by exact h0))<|wm<|wy<|wm<|wy<|wV (run_bT (run_leq rfl rfl) (by exact h1))<|pT<|wA<|wZ ?_
   refine CW.ret ?_
   refine fin_ret1 rfl ?_
   exact⟨rfl,hs⟩
  ·rw[decide_eq_false (fun h=>h1 h.2)]
   refine calls (n:=9) Tryz.func104 rfl rfl rfl ?_
   refine sr<|wA<|wZ<|sr<|wm<|wV (run_bT (run_geq rfl rfl) (by exact h0))<|wm<|wy<|wm<|wy<|wV (run_bF (run_leq rfl rfl) (by exact h1))<|pT<|wA<|wZ ?_
   refine CW.ret ?_
   refine fin_ret1 rfl ?_
   exact⟨rfl,hs⟩
 ·rw[decide_eq_false (fun h=>h0 h.1)]
  refine calls (n:=9) Tryz.func104 rfl rfl rfl ?_
  refine sr<|wA<|wZ<|sr<|wm<|wV (run_bF (run_geq rfl rfl) (by exact h0))<|wm<|wz<|wz<|pF<|wA<|wZ ?_
  refine CW.ret ?_
  refine fin_ret1 rfl ?_
  exact⟨rfl,hs⟩
def stC (k cap used last:Nat) (m:Nat) (gets puts:Nat):List Value:=[.int .i64 k,.int .i64 cap,.int .i64 used,.int .i64 last,.map (some m),.int .i64 gets,.int .i64 puts]
theorem len_spec{bs k cap used last m gets puts clock:Nat}{M:List (List UInt8×Value×Nat)} (w0:World) (hb:w0.heap[bs]?=some (blk 140 (stC k cap used last m gets puts))) (hm:w0.heap[m]?=some (mapObj M clock)) :
  CP 29 #[pt bs] w0 (Ret0 (.int .i64 (M.length:Nat)) w0):=by
 have hs:Step [] [] w0 w0:=Step.refl w0
 have hat:At w0 bs 0 (stC k cap used last m gets puts):=At.of_blk hb
 refine calls (n:=8) Tryz.func29 rfl rfl rfl ?_
 refine sr<|wA<|wZ<|sr<|wm<|wn rfl<|wF 4 u140 rfl ty138 rfl<|wl ty138 rfl ((hat.step hs (by simp)).cell (j:=4) rfl)<|wV (run_lenD u138 rfl (hs.old hm (by simp)))<|wA<|wZ<|CW.ret ?_
 refine fin_ret1 rfl ?_
 exact⟨rfl,hs⟩
section
variable{f:Slots}{w:World}{dd:Option Tmp}{ty:TypeId}{pos:String}{af:Array Edge}{x y:Operand}{T E:TypeId}{M:List (List UInt8×Value×Nat)}{d:U8}{r clock:Nat}{z u:Value}{b:Bool}
theorem run_lookupE (ht:Tryz.prog.underlying T=some (.map 44 E)) (hz:(zeroValue E).run Tryz.prog w=.ok z w) (hM:Keys32 M) (hd:d.length=32) (hu:((findD d M 0).map (·.2)).getD z=u) (hb':(findD d M 0).isSome=b) (hx:ev f x=.map (some r)) (hy:ev f y=.agg (u8s d).toArray) (hb:w.heap[r]?=some (mapObj M clock)) :
  (execOp (ev f) ⟨dd,.lookup T x y true,ty,pos,af,none⟩).run Tryz.prog w=.ok (.value (.tuple #[u,.bool b])) w:=by
 rw[←hu,←hb']
 exact run_lookupD ht hz hM hd hx hy hb
end
def zB:Value:=.agg #[.slice none 0 0,.int .i64 0]
theorem has_spec{bs k cap used last m gets puts clock st n c:Nat}{a:Option Addr}{M:List (List UInt8×Value×Nat)}{d:U8}{b:Bool} (w0:World) (hb:w0.heap[bs]?=some (blk 140 (stC k cap used last m gets puts))) (hm:w0.heap[m]?=some (mapObj M clock))
  (hM:Keys32 M) (hd:d.length=32) (hu:((findD d M 0).map (·.2)).getD zB=.agg #[.slice a n c,.int .i64 st]) (hb':(findD d M 0).isSome=b) :
  CP 122 #[pt bs,.agg (u8s d).toArray] w0 (Ret0 (.bool b) w0):=by
 have hs:Step [] [] w0 w0:=Step.refl w0
 have hat:At w0 bs 0 (stC k cap used last m gets puts):=At.of_blk hb
 have hdl:(u8s d).length=32:=by rw[u8s,length_map,hd]
 refine calls (n:=17) Tryz.func122 rfl rfl rfl ?_
 refine sr<|WL.box (cs:=u8s d) rfl rfl rfl hs (fun b3 w hs=>?_)
 refine wA<|wZ<|cq<|CW.any (A:=fun w=>Step [] [(b3,blk 44 (u8s d))] w0 w) (C:=fun w=>Step [] [(b3,blk 44 (u8s d))] w0 w) 1000000 12 mixedP rfl ?_
 replace hs:=hs.drew
 refine aM 0 rfl<|aN 1 rfl rfl<|aF 2 rfl 4 u140 rfl ty138 rfl<|aL 3 rfl ty138 rfl (fun w hs=>(hat.step hs (by simp)).cell (j:=4) rfl)<|aV 4 rfl (fun w hs=>run_loadN ty44 rfl hdl hs.a0)<|aV 5 rfl (fun w hs=>run_lookupE u138 (zBlob _) hM hd hu hb' rfl rfl (hs.old hm (by simp)))<|aM 6 rfl<|aX 7 rfl rfl rfl<|aX 8 rfl rfl rfl<|AL.one 9 (by kernel_rfl) rfl (by exact hs) (by exact hs) ?_
 refine WL.alloc ty158 rfl hs (fun b5 w hs=>?_)
 refine wZ<|⟨rfl,?_⟩
 refine AL.one 10 (by kernel_rfl) rfl (by exact hs.tail) (by exact hs.tail) ?_
 refine WL.storeAll ty158 rfl rfl (rfl) (Cells1.of_all rfl) hs (by rfl) (fun w hs=>?_)
 refine wZ<|⟨rfl,?_⟩
 refine aA 11 rfl<|AL.end (by kernel_rfl) (by exact hs.tail) (by exact hs.tail) ?_
 refine sr<|wm<|wA<|wZ<|CW.ret ?_
 refine fin_ret1 rfl ?_
 exact⟨rfl,hs.clear⟩
theorem frontL_len{x:U8}{k:Nat} (hk:k≤32):(frontL x k).length=32:=cutD_len (shaL_len x) hk
attribute [local irreducible] shaL cutD frontL
theorem whole_yes{bs k cap used last m gets puts clock st c:Nat}{a:Option Addr}{M:List (List UInt8×Value×Nat)}{d x:U8} (w0:World) (hb:w0.heap[bs]?=some (blk 140 (stC k cap used last m gets puts))) (hm:w0.heap[m]?=some (mapObj M clock))
  (hM:Keys32 M) (hd:d.length=32) (hu:((findD d M 0).map (·.2)).getD zB=.agg #[.slice a x.length c,.int .i64 st]) (hb':(findD d M 0).isSome=true)
  (hv:Sl w0 1 (.slice a x.length c) x.length (u8s x)) (hcap:Room (.slice a x.length c)) (hsz:x.length<1099511627776) (hk1:1≤k) (hk:k≤32) :
  CP 52 #[pt bs,.agg (u8s d).toArray] w0 (Ret0 (.bool (decide (frontL x k=d))) w0):=by
 have hs:Step [] [] w0 w0:=Step.refl w0
 have hat:At w0 bs 0 (stC k cap used last m gets puts):=At.of_blk hb
 have hdl:(u8s d).length=32:=by rw[u8s,length_map,hd]
 refine calls (n:=25) Tryz.func52 rfl rfl rfl ?_
 refine sr<|WL.box (cs:=u8s d) rfl rfl rfl hs (fun b3 w hs=>?_)
 refine wA<|wZ<|cq<|CW.any (A:=fun w=>Step [] [(b3,blk 44 (u8s d))] w0 w) (C:=fun w=>Step [] [(b3,blk 44 (u8s d))] w0 w) 1000000 12 mixedP rfl ?_
 replace hs:=hs.drew
 refine aM 0 rfl<|aN 1 rfl rfl<|aF 2 rfl 4 u140 rfl ty138 rfl<|aL 3 rfl ty138 rfl (fun w hs=>(hat.step hs (by simp)).cell (j:=4) rfl)<|aV 4 rfl (fun w hs=>run_loadN ty44 rfl hdl hs.a0)<|aV 5 rfl (fun w hs=>run_lookupE u138 (zBlob _) hM hd hu hb' rfl rfl (hs.old hm (by simp)))<|aM 6 rfl<|aX 7 rfl rfl rfl<|aX 8 rfl rfl rfl<|AL.one 9 (by kernel_rfl) rfl (by exact hs) (by exact hs) ?_
 refine WL.alloc ty158 rfl hs (fun b5 w hs=>?_)
 refine wZ<|⟨rfl,?_⟩
 refine AL.one 10 (by kernel_rfl) rfl (by exact hs.tail) (by exact hs.tail) ?_
 refine WL.storeAll ty158 rfl rfl (rfl) (Cells1.of_all rfl) hs (by rfl) (fun w hs=>?_)
 refine wZ<|⟨rfl,?_⟩
 refine aA 11 rfl<|AL.end (by kernel_rfl) (by exact hs.tail) (by exact hs.tail) ?_
 refine cq<|CW.quiet mixedP (by kernel_rfl) hs ?_
 refine qm<|qm<|qy<|qm<|qy<|qF 0 u158 rfl ty76 rfl<|qy<|qL ty76 rfl (fun w hs=>hs.c0 (v:=.slice a x.length c) rfl)<|qy<|QL.enter rfl (fun w=>run_call en91 rfl rfl) (fun w hs=>digest_spec _ ((hat.step hs (by simp)).cell (j:=0) rfl) (hv.step0 hs) hcap hsz hk1 hk) ?_
 refine qy<|qV (fun w hs=>run_loadN ty44 rfl hdl hs.a1)<|qy<|qV (fun w hs=>run_eqDig (frontL_len hk) hd rfl rfl)<|qT<|qA<|QL.nil (fun w hs=>?_)
 refine CW.ret ?_
 refine fin_ret1 rfl ?_
 exact⟨rfl,hs.clear⟩
theorem whole_no{bs k cap used last m gets puts clock:Nat}{M:List (List UInt8×Value×Nat)}{d:U8} (w0:World) (hb:w0.heap[bs]?=some (blk 140 (stC k cap used last m gets puts))) (hm:w0.heap[m]?=some (mapObj M clock))
  (hM:Keys32 M) (hd:d.length=32) (hu:((findD d M 0).map (·.2)).getD zB=.agg #[.slice none 0 0,.int .i64 0]) (hb':(findD d M 0).isSome=false) :
  CP 52 #[pt bs,.agg (u8s d).toArray] w0 (Ret0 (.bool false) w0):=by
 have hs:Step [] [] w0 w0:=Step.refl w0
 have hat:At w0 bs 0 (stC k cap used last m gets puts):=At.of_blk hb
 have hdl:(u8s d).length=32:=by rw[u8s,length_map,hd]
 refine calls (n:=25) Tryz.func52 rfl rfl rfl ?_
 refine sr<|WL.box (cs:=u8s d) rfl rfl rfl hs (fun b3 w hs=>?_)
 refine wA<|wZ<|cq<|CW.any (A:=fun w=>Step [] [(b3,blk 44 (u8s d))] w0 w) (C:=fun w=>Step [] [(b3,blk 44 (u8s d))] w0 w) 1000000 12 mixedP rfl ?_
 replace hs:=hs.drew
 refine aM 0 rfl<|aN 1 rfl rfl<|aF 2 rfl 4 u140 rfl ty138 rfl<|aL 3 rfl ty138 rfl (fun w hs=>(hat.step hs (by simp)).cell (j:=4) rfl)<|aV 4 rfl (fun w hs=>run_loadN ty44 rfl hdl hs.a0)<|aV 5 rfl (fun w hs=>run_lookupE u138 (zBlob _) hM hd hu hb' rfl rfl (hs.old hm (by simp)))<|aM 6 rfl<|aX 7 rfl rfl rfl<|aX 8 rfl rfl rfl<|AL.one 9 (by kernel_rfl) rfl (by exact hs) (by exact hs) ?_
 refine WL.alloc ty158 rfl hs (fun b5 w hs=>?_)
 refine wZ<|⟨rfl,?_⟩
 refine AL.one 10 (by kernel_rfl) rfl (by exact hs.tail) (by exact hs.tail) ?_
 refine WL.storeAll ty158 rfl rfl (rfl) (Cells1.of_all rfl) hs (by rfl) (fun w hs=>?_)
 refine wZ<|⟨rfl,?_⟩
 refine aA 11 rfl<|AL.end (by kernel_rfl) (by exact hs.tail) (by exact hs.tail) ?_
 refine cq<|CW.quiet mixedP (by kernel_rfl) hs ?_
 refine qm<|qm<|qz<|qz<|qz<|qz<|qz<|qz<|qP<|qA<|QL.nil (fun w hs=>?_)
 refine CW.ret ?_
 refine fin_ret1 rfl ?_
 exact⟨rfl,hs.clear⟩
end Go.Gx
namespace Go.Gx
open Go.Proofs List
theorem raw_spec{bs k cap used last m gets puts clock st c:Nat}{a:Option Addr}{M:List (List UInt8×Value×Nat)}{d x:U8}{b:Bool} (w0:World) (hb:w0.heap[bs]?=some (blk 140 (stC k cap used last m gets puts))) (hm:w0.heap[m]?=some (mapObj M clock))
  (hM:Keys32 M) (hd:d.length=32) (hu:((findD d M 0).map (·.2)).getD zB=.agg #[.slice a x.length c,.int .i64 st]) (hb':(findD d M 0).isSome=b)
  (hv:Sl w0 1 (.slice a x.length c) x.length (u8s x)) (hsz:x.length<1099511627776) :
  CP 102 #[pt bs,.agg (u8s d).toArray] w0 fun e w'=>∃v' Lv,e=.returned (.tuple #[v',.bool b])∧OwnSl 5 1 v' x.length (u8s x) Lv∧Step [] Lv w0 w':=by
 have hs:Step [] [] w0 w0:=Step.refl w0
 have hat:At w0 bs 0 (stC k cap used last m gets puts):=At.of_blk hb
 have hdl:(u8s d).length=32:=by rw[u8s,length_map,hd]
 refine calls (n:=21) Tryz.func102 rfl rfl rfl ?_
 refine sr<|WL.box (cs:=u8s d) rfl rfl rfl hs (fun b3 w hs=>?_)
 refine wA<|wA<|wZ<|cq<|CW.any (A:=fun w=>Step [] [(b3,blk 44 (u8s d))] w0 w) (C:=fun w=>Step [] [(b3,blk 44 (u8s d))] w0 w) 1000000 12 mixedP rfl ?_
 replace hs:=hs.drew
 refine aM 0 rfl<|aN 1 rfl rfl<|aF 2 rfl 4 u140 rfl ty138 rfl<|aL 3 rfl ty138 rfl (fun w hs=>(hat.step hs (by simp)).cell (j:=4) rfl)<|aV 4 rfl (fun w hs=>run_loadN ty44 rfl hdl hs.a0)<|aV 5 rfl (fun w hs=>run_lookupE u138 (zBlob _) hM hd hu hb' rfl rfl (hs.old hm (by simp)))<|aM 6 rfl<|aX 7 rfl rfl rfl<|aX 8 rfl rfl rfl<|AL.one 9 (by kernel_rfl) rfl (by exact hs) (by exact hs) ?_
 refine WL.alloc ty158 rfl hs (fun b6 w hs=>?_)
 refine wZ<|⟨rfl,?_⟩
 refine AL.one 10 (by kernel_rfl) rfl (by exact hs.tail) (by exact hs.tail) ?_
 refine WL.storeAll ty158 rfl rfl (rfl) (Cells1.of_all rfl) hs (by rfl) (fun w hs=>?_)
 refine wZ<|⟨rfl,?_⟩
 refine aA 11 rfl<|AL.end (by kernel_rfl) (by exact hs.tail) (by exact hs.tail) ?_
 refine sr<|wF 0 u158 rfl ty76 rfl<|wl ty76 rfl (hs.c0 (v:=.slice a x.length c) rfl)<|wE rfl (run_call en83 rfl rfl) (clone_spec _ (hv.step0 hs) (by omega)) ?_
 rintro e w ⟨v',Lv,rfl,hu',hq⟩
 refine⟨_,rfl,?_⟩
 replace hs:=Step.call0 hs hq
 refine wm<|wA<|wA<|wZ<|CW.ret ?_
 refine fin_ret2 rfl ?_
 exact⟨v',Lv,rfl,hu',hs.dropR⟩
section
variable{bs k cap used last m gets puts:Nat}
theorem used_spec (w0:World) (hb:w0.heap[bs]?=some (blk 140 (stC k cap used last m gets puts))):CP 55 #[pt bs] w0 (Ret0 (.int .i64 (used:Nat)) w0):=by
 have hs:Step [] [] w0 w0:=Step.refl w0
 have hat:At w0 bs 0 (stC k cap used last m gets puts):=At.of_blk hb
 refine calls (n:=7) Tryz.func55 rfl rfl rfl ?_
 refine sr<|wA<|wZ<|sr<|wm<|wn rfl<|wF 2 u140 rfl ty3 rfl<|wl ty3 rfl ((hat.step hs (by simp)).cell (j:=2) rfl)<|wA<|wZ<|CW.ret ?_
 refine fin_ret1 rfl ?_
 exact⟨rfl,hs⟩
theorem cap_spec (w0:World) (hb:w0.heap[bs]?=some (blk 140 (stC k cap used last m gets puts))):CP 68 #[pt bs] w0 (Ret0 (.int .i64 (cap:Nat)) w0):=by
 have hs:Step [] [] w0 w0:=Step.refl w0
 have hat:At w0 bs 0 (stC k cap used last m gets puts):=At.of_blk hb
 refine calls (n:=7) Tryz.func68 rfl rfl rfl ?_
 refine sr<|wA<|wZ<|sr<|wm<|wn rfl<|wF 1 u140 rfl ty3 rfl<|wl ty3 rfl ((hat.step hs (by simp)).cell (j:=1) rfl)<|wA<|wZ<|CW.ret ?_
 refine fin_ret1 rfl ?_
 exact⟨rfl,hs⟩
theorem width_spec (w0:World) (hb:w0.heap[bs]?=some (blk 140 (stC k cap used last m gets puts))):CP 69 #[pt bs] w0 (Ret0 (.int .i64 (k:Nat)) w0):=by
 have hs:Step [] [] w0 w0:=Step.refl w0
 have hat:At w0 bs 0 (stC k cap used last m gets puts):=At.of_blk hb
 refine calls (n:=7) Tryz.func69 rfl rfl rfl ?_
 refine sr<|wA<|wZ<|sr<|wm<|wn rfl<|wF 0 u140 rfl ty3 rfl<|wl ty3 rfl ((hat.step hs (by simp)).cell (j:=0) rfl)<|wA<|wZ<|CW.ret ?_
 refine fin_ret1 rfl ?_
 exact⟨rfl,hs⟩
end
section
variable{bs k cap used last m gets puts:Nat}
theorem limit_bad{c:Int} (hc:¬(0≤c∧c≤67108864)) (w:World):CP 54 #[pt bs,.int .i64 c] w (Ret0 (.int .i64 1) w):=by
 have hs:Step [] [] w w:=Step.refl w
 have hcap:=fun w=>capable_spec c w
 simp only[decide_eq_false hc] at hcap
 refine calls (n:=12) Tryz.func54 rfl rfl rfl ?_
 refine sr<|wA<|wZ<|cq<|sr<|wm<|wE rfl (run_call en104 rfl rfl) (hcap _) ?_
 rintro e w ⟨rfl,hq⟩
 refine⟨_,rfl,?_⟩
 replace hs:=hs.callE hq
 refine wN rfl<|wZ<|CW.cond rfl (fun h=>?_) (fun h=>?_)
 ·refine sr<|wA<|wZ<|CW.ret ?_
  refine fin_ret1 rfl ?_
  exact⟨rfl,hs⟩
 ·cases h
theorem limit_ok{c:Nat} (hc:c≤67108864) (w0:World) (hb:w0.heap[bs]?=some (blk 140 (stC k cap used last m gets puts))):CP 54 #[pt bs,.int .i64 c] w0 (fun e w'=>e=.returned (.int .i64 0)∧Step [bs] [(bs,blk 140 (stC k c used last m gets puts))] w0 w'):=by
 have hs:Step [bs] [(bs,blk 140 (stC k cap used last m gets puts))] w0 w0:=Step.start (L:=[(bs,blk 140 (stC k cap used last m gets puts))]) (by simp) (by simpa using hb)
 have hcap:=fun w=>capable_spec (c:Int) w
 have hc':(0:Int)≤c∧(c:Int)≤67108864:=by omega
 simp only[decide_eq_true hc'] at hcap
 refine calls (n:=12) Tryz.func54 rfl rfl rfl ?_
 refine sr<|wA<|wZ<|cq<|sr<|wm<|wE rfl (run_call en104 rfl rfl) (hcap _) ?_
 rintro e w ⟨rfl,hq⟩
 refine⟨_,rfl,?_⟩
 replace hs:=hs.callE hq
 refine wN rfl<|wZ<|CW.cond rfl (fun h=>?_) (fun h=>?_)
 ·cases h
 ·refine ck<|sr<|wm<|wm<|wn rfl<|wF 1 u140 rfl ty3 rfl<|ws1 ty3 rfl rfl (rfl) hs (fun w hs=>?_)
  refine wZ<|sr<|wA<|wZ<|CW.ret ?_
  refine fin_ret1 rfl ?_
  exact⟨rfl,hs⟩
end
section
variable{f:Slots}{w:World}{dd:Option Tmp}{ty:TypeId}{pos:String}{af:Array Edge}{x y:Operand}{T E:TypeId}{M:List (List UInt8×Value×Nat)}{d:U8}{r clock:Nat}{z u:Value}
theorem run_lookupV (ht:Tryz.prog.underlying T=some (.map 44 E)) (hz:(zeroValue E).run Tryz.prog w=.ok z w) (hM:Keys32 M) (hd:d.length=32) (hu:((findD d M 0).map (·.2)).getD z=u) (hx:ev f x=.map (some r)) (hy:ev f y=.agg (u8s d).toArray) (hb:w.heap[r]?=some (mapObj M clock)) :
  (execOp (ev f) ⟨dd,.lookup T x y false,ty,pos,af,none⟩).run Tryz.prog w=.ok (.value u) w:=by
 have h1:=run_findKey hd w hM
 have h2:=run_keyOk hd (ents M).toArray.isEmpty w
 have hg:(getObj r).run Tryz.prog w=.ok (mapObj M clock) w:=MapKept.run_getObj_map (P:=Tryz.prog) hb
 simp only[execOp,hx,hy,Instr.lookup,Sem.run_bind,run_underlying ht,Result.andThen_ok,hg,mapObj,Sem.run_pure,h2,h1]
 subst hu
 cases hf:findD d M 0 with
 | none=>simp[hz]
 | some p=>simp
theorem run_fieldV{P:Program}{fs:Array Field}{fd:Field}{i n bytes:Nat}{zs vs:List Value}{v:Value} (ht:P.underlying T=some (.struct fs)) (hf:fs[i]?=some fd) (hE:Ty P fd.type false n bytes zs) (hx:ev f x=.agg vs.toArray) (hv:vs[fd.offset]?=some v) :
  (execOp (ev f) ⟨dd,.field T x i,ty,pos,af,none⟩).run P w=.ok (.value v) w:=by
 simp[execOp,hx,Instr.field,run_underlying ht,hf,asAgg,part,run_isAgg hE,hv]
end
section
variable{bs k cap used last m gets puts clock st n c:Nat}{a:Option Addr}{M:List (List UInt8×Value×Nat)}{d:U8}{b:Bool}
theorem stamp_spec (w0:World) (hb:w0.heap[bs]?=some (blk 140 (stC k cap used last m gets puts))) (hm:w0.heap[m]?=some (mapObj M clock))
  (hM:Keys32 M) (hd:d.length=32) (hu:((findD d M 0).map (·.2)).getD zB=.agg #[.slice a n c,.int .i64 st]) :
  CP 50 #[pt bs,.agg (u8s d).toArray] w0 (Ret0 (.int .i64 st) w0):=by
 have hs:Step [] [] w0 w0:=Step.refl w0
 have hat:At w0 bs 0 (stC k cap used last m gets puts):=At.of_blk hb
 have hdl:(u8s d).length=32:=by rw[u8s,length_map,hd]
 refine calls (n:=12) Tryz.func50 rfl rfl rfl ?_
 refine sr<|WL.box (cs:=u8s d) rfl rfl rfl hs (fun b3 w hs=>?_)
 refine wA<|wZ<|cq<|CW.quiet mixedP (by kernel_rfl) hs ?_
 refine qm<|qn rfl<|qF 4 u140 rfl ty138 rfl<|qL ty138 rfl (fun w hs=>(hat.step hs.clear (by simp)).cell (j:=4) rfl)<|qV (fun w hs=>run_loadN ty44 rfl hdl hs.a0)<|qV (fun w hs=>run_lookupV u138 (zBlob _) hM hd hu rfl rfl (hs.old hm (by simp)))<|qV (fun w hs=>run_fieldV u158 rfl ty3 rfl rfl)<|qA<|QL.nil (fun w hs=>?_)
 refine CW.ret ?_
 refine fin_ret1 rfl ?_
 exact⟨rfl,hs.clear⟩
theorem evict_no (w0:World) (hb:w0.heap[bs]?=some (blk 140 (stC k cap used last m gets puts))) (hm:w0.heap[m]?=some (mapObj M clock))
  (hM:Keys32 M) (hd:d.length=32) (hf:findD d M 0=none) :
  CP 34 #[pt bs,.agg (u8s d).toArray] w0 (Ret0 (.bool false) w0):=by
 have hs:Step [] [] w0 w0:=Step.refl w0
 have hat:At w0 bs 0 (stC k cap used last m gets puts):=At.of_blk hb
 have hdl:(u8s d).length=32:=by rw[u8s,length_map,hd]
 have hu:((findD d M 0).map (·.2)).getD zB=.agg #[.slice none 0 0,.int .i64 0]:=by rw[hf];rfl
 have hb':(findD d M 0).isSome=false:=by rw[hf];rfl
 refine calls (n:=33) Tryz.func34 rfl rfl rfl ?_
 refine sr<|WL.box (cs:=u8s d) rfl rfl rfl hs (fun b3 w hs=>?_)
 refine wA<|wZ<|cq<|CW.any (A:=fun w=>Step [] [(b3,blk 44 (u8s d))] w0 w) (C:=fun w=>Step [] [(b3,blk 44 (u8s d))] w0 w) 1000000 12 mixedP rfl ?_
 replace hs:=hs.drew
 refine aM 0 rfl<|aN 1 rfl rfl<|aF 2 rfl 4 u140 rfl ty138 rfl<|aL 3 rfl ty138 rfl (fun w hs=>(hat.step hs (by simp)).cell (j:=4) rfl)<|aV 4 rfl (fun w hs=>run_loadN ty44 rfl hdl hs.a0)<|aV 5 rfl (fun w hs=>run_lookupE u138 (zBlob _) hM hd hu hb' rfl rfl (hs.old hm (by simp)))<|aM 6 rfl<|aX 7 rfl rfl rfl<|aX 8 rfl rfl rfl<|AL.one 9 (by kernel_rfl) rfl (by exact hs) (by exact hs) ?_
 refine WL.alloc ty158 rfl hs (fun b5 w hs=>?_)
 refine wZ<|⟨rfl,?_⟩
 refine AL.one 10 (by kernel_rfl) rfl (by exact hs.tail) (by exact hs.tail) ?_
 refine WL.storeAll ty158 rfl rfl (rfl) (Cells1.of_all rfl) hs (by rfl) (fun w hs=>?_)
 refine wZ<|⟨rfl,?_⟩
 refine aA 11 rfl<|AL.end (by kernel_rfl) (by exact hs.tail) (by exact hs.tail) ?_
 refine cq<|sr<|wm<|wZ<|CW.cond rfl (fun h=>?_) (fun h=>?_)
 ·cases h
 ·refine ck<|sr<|wm<|wA<|wZ<|CW.ret ?_
  refine fin_ret1 rfl ?_
  exact⟨rfl,hs.clear⟩
theorem evict_yes{x:U8}{i:Nat} (hne:bs≠m) (w0:World) (hb:w0.heap[bs]?=some (blk 140 (stC k cap used last m gets puts))) (hm:w0.heap[m]?=some (mapObj M clock))
  (hM:Keys32 M) (hd:d.length=32) (hf:findD d M 0=some (i,.agg #[.slice a x.length c,.int .i64 st])) (hv:Sl w0 1 (.slice a x.length c) x.length (u8s x)) (hsz:x.length<1099511627776) (hou:x.length+32≤used) (hus:used<1099511627776) (hO:Outside (.slice a x.length c) [bs,m]) :
  CP 34 #[pt bs,.agg (u8s d).toArray] w0 (fun e w'=>e=.returned (.bool true)∧Step [bs,m] [(bs,blk 140 (stC k cap (used - (x.length+32)) last m gets puts)),(m,mapObj (delM d M) clock)] w0 w'):=by
 have hs:Step [bs,m] [(bs,blk 140 (stC k cap used last m gets puts)),(m,mapObj M clock)] w0 w0:=Step.start (L:=[(bs,blk 140 (stC k cap used last m gets puts)),(m,mapObj M clock)]) (by simpa using hne) (by intro p hp;simp at hp;rcases hp with rfl | rfl;exact hb;exact hm)
 have hdl:(u8s d).length=32:=by rw[u8s,length_map,hd]
 have hu:((findD d M 0).map (·.2)).getD zB=.agg #[.slice a x.length c,.int .i64 st]:=by rw[hf];rfl
 have hb':(findD d M 0).isSome=true:=by rw[hf];rfl
 refine calls (n:=33) Tryz.func34 rfl rfl rfl ?_
 refine sr<|WL.box (cs:=u8s d) rfl rfl rfl hs (fun b3 w hs=>?_)
 refine wA<|wZ<|cq<|CW.any (A:=fun w=>Step [bs,m] [(b3,blk 44 (u8s d)),(bs,blk 140 (stC k cap used last m gets puts)),(m,mapObj M clock)] w0 w) (C:=fun w=>Step [bs,m] [(b3,blk 44 (u8s d)),(bs,blk 140 (stC k cap used last m gets puts)),(m,mapObj M clock)] w0 w) 1000000 12 mixedP rfl ?_
 replace hs:=hs.drew
 refine aM 0 rfl<|aN 1 rfl rfl<|aF 2 rfl 4 u140 rfl ty138 rfl<|aL 3 rfl ty138 rfl (fun w hs=>by exact hs.c1 rfl)<|aV 4 rfl (fun w hs=>run_loadN ty44 rfl hdl hs.a0)<|aV 5 rfl (fun w hs=>run_lookupE u138 (zBlob _) hM hd hu hb' rfl rfl (hs.get (o:=mapObj M clock) (by simp)))<|aM 6 rfl<|aX 7 rfl rfl rfl<|aX 8 rfl rfl rfl<|AL.one 9 (by kernel_rfl) rfl (by exact hs) (by exact hs) ?_
 refine WL.alloc ty158 rfl hs (fun b5 w hs=>?_)
 refine wZ<|⟨rfl,?_⟩
 refine AL.one 10 (by kernel_rfl) rfl (by exact hs.tail) (by exact hs.tail) ?_
 refine WL.storeAll ty158 rfl rfl (rfl) (Cells1.of_all rfl) hs (by rfl) (fun w hs=>?_)
 refine wZ<|⟨rfl,?_⟩
 refine aA 11 rfl<|AL.end (by kernel_rfl) (by exact hs.tail) (by exact hs.tail) ?_
 refine cq<|sr<|wm<|wZ<|CW.cond rfl (fun h=>?_) (fun h=>?_)
 ·refine cq<|CW.quietT (l1:=[_,_,_,_,_,_,_,_,_,_]) (l2:=[_]) 10 rfl mixedP rfl (by kernel_rfl) hs ?_
  refine qm<|qn rfl<|qF 2 u140 rfl ty3 rfl<|qL ty3 rfl (fun w hs=>hs.c2 rfl)<|qF 0 u158 rfl ty76 rfl<|qL ty76 rfl (fun w hs=>hs.c0 (v:=.slice a x.length c) rfl)<|QL.enter rfl (fun w=>run_call en88 rfl rfl) (fun w hs=>cost_spec _ (hv.step hs hO) hsz) ?_
  refine qV (fun w hs=>run_sub (c:=((used - (x.length+32):Nat):Int)) rfl rfl (by omega) (by omega))<|qn rfl<|qF 2 u140 rfl ty3 rfl<|QL.nil (fun w hs=>?_)
  refine WL.store1_2 ty3 rfl rfl (rfl) hs (by first | (simp;done) | omega | (simp only[length_append,length_replicate,length_cons,length_nil,length_set];omega) | (simp[Ent.cells,u8s];done) | exact Nat.le_of_ble_eq_true rfl) (fun w hs=>?_)
  refine wZ<|CW.quietT (l1:=[_,_,_,_,_]) (l2:=[_]) 5 rfl mixedP rfl (by kernel_rfl) hs ?_
  refine qm<|qn rfl<|qF 4 u140 rfl ty138 rfl<|qL ty138 rfl (fun w hs=>hs.c2 (v:=.map (some m)) rfl)<|qV (fun w hs=>run_loadN ty44 rfl hdl hs.a1)<|QL.nil (fun w hs=>?_)
  refine WL.mapDel u138 rfl rfl hM hd (hs.front [_,_,_]) (fun w hs=>?_)
  refine wZ<|sr<|wm<|wA<|wZ<|CW.ret ?_
  refine fin_ret1 rfl ?_
  exact⟨rfl,(hs.perm (L':=[_,_,_,_]) (perm_append_comm (l₁:=[_]) (l₂:=[_,_,_]))).dropL (L1:=[_,_])⟩
 ·cases h
end
theorem cost_specN{a:Option Addr}{n c:Nat} (w0:World) (hsz:n<1099511627776):CP 88 #[.slice a n c] w0 (Ret0 (.int .i64 ((n+32:Nat):Int)) w0):=by
 have hs:Step [] [] w0 w0:=Step.refl w0
 refine calls (n:=6) Tryz.func88 rfl rfl rfl ?_
 refine sr<|wA<|wZ<|sr<|wm<|wL u76 rfl<|wP ((n+32:Nat):Int)<|wA<|wZ<|CW.ret ?_
 refine fin_ret1 rfl ?_
 exact⟨rfl,hs⟩
def OutE (v:Value) (y:(List UInt8)) (S:List Nat):Prop:=y=[]∨Outside v S
theorem Sl.stepE{S:List Nat}{L:OL}{w w':World}{v:Value}{y:U8} (h:Sl w 1 v y.length (u8s y)) (hs:Step S L w w') (hO:OutE v y S):Sl w' 1 v y.length (u8s y):=by
 rcases hO with rfl | hO
 ·obtain⟨hl,h | ⟨b,off,c,rfl,h⟩⟩:=h
  ·exact⟨hl,.inl h⟩
  ·exact⟨hl,.inr ⟨b,off,c,rfl,At.nil⟩⟩
 ·exact h.step hs hO
section
variable{bs k cap used last m gets puts clock st n c:Nat}{a:Option Addr}{M:List (List UInt8×Value×Nat)}{d:U8}{b:Bool}
def wasC (o:Option Nat):Nat:=match o with | some n=>n+32 | none=>0
theorem bld_blob (a:Option Addr) (n c:Nat) (z:Int) (w:World):(Instr.build 158 #[(0,.slice a n c),(1,.int .i64 z)]).run Tryz.prog w=.ok (.agg #[.slice a n c,.int .i64 z]) w:=by kernel_rfl
theorem lay_full{y:U8}{v:Value} (hne:bs≠m) (w0:World) (hb:w0.heap[bs]?=some (blk 140 (stC k cap used last m gets puts))) (hm:w0.heap[m]?=some (mapObj M clock))
  (hM:Keys32 M) (hd:d.length=32) (hu:((findD d M 0).map (·.2)).getD zB=.agg #[.slice a n c,.int .i64 st]) (hb':(findD d M 0).isSome=b)
  (hy:Sl w0 1 v y.length (u8s y)) (hsy:y.length<1099511627776) (hsz:n<1099511627776) (hus:used<1099511627776) (hou:b=true→n+32≤used)
  (hf1:b=true→cap<used+(y.length+32) - (n+32)) (hf0:b=false→cap<used+(y.length+32)) :
  CP 90 #[pt bs,.agg (u8s d).toArray,v] w0 (Ret0 (.int .i64 43) w0):=by
 have hs:Step [] [] w0 w0:=Step.refl w0
 have hat:At w0 bs 0 (stC k cap used last m gets puts):=At.of_blk hb
 have hdl:(u8s d).length=32:=by rw[u8s,length_map,hd]
 have hc2:∀w,CP 88 #[.slice a n c] w (Ret0 (.int .i64 ((n+32:Nat):Int)) w):=fun w=>cost_specN w hsz
 refine calls (n:=61) Tryz.func90 rfl rfl rfl ?_
 refine sr<|WL.box (cs:=u8s d) rfl rfl rfl hs (fun b4 w hs=>?_)
 refine wA<|wZ<|cq<|CW.quiet mixedP (by kernel_rfl) hs ?_
 refine qm<|qn rfl<|qF 2 u140 rfl ty3 rfl<|qL ty3 rfl (fun w hs=>(hat.step hs.clear (by simp)).cell (j:=2) rfl)<|qm<|QL.enter rfl (fun w=>run_call en88 rfl rfl) (fun w hs=>cost_spec _ (hy.step0 hs.clear) hsy) ?_
 refine qV (fun w hs=>run_add (c:=((used+(y.length+32):Nat):Int)) rfl rfl (by omega) (by omega))<|qA<|QL.nil (fun w hs=>?_)
 refine cq<|cq<|CW.any (A:=fun w=>Step [] [(b4,blk 44 (u8s d))] w0 w) (C:=fun w=>Step [] [(b4,blk 44 (u8s d))] w0 w) 1000000 12 mixedP rfl ?_
 replace hs:=hs.drew
 refine aM 0 rfl<|aN 1 rfl rfl<|aF 2 rfl 4 u140 rfl ty138 rfl<|aL 3 rfl ty138 rfl (fun w hs=>(hat.step hs.clear (by simp)).cell (j:=4) rfl)<|aV 4 rfl (fun w hs=>run_loadN ty44 rfl hdl hs.a0)<|aV 5 rfl (fun w hs=>run_lookupE u138 (zBlob _) hM hd hu hb' rfl rfl (hs.old hm (by simp)))<|aM 6 rfl<|aX 7 rfl rfl rfl<|aX 8 rfl rfl rfl<|AL.one 9 (by kernel_rfl) rfl (by exact hs) (by exact hs) ?_
 refine WL.alloc ty158 rfl hs (fun b8 w hs=>?_)
 refine wZ<|⟨rfl,?_⟩
 refine AL.one 10 (by kernel_rfl) rfl (by exact hs.tail) (by exact hs.tail) ?_
 refine WL.storeAll ty158 rfl rfl (rfl) (Cells1.of_all rfl) hs (by rfl) (fun w hs=>?_)
 refine wZ<|⟨rfl,?_⟩
 refine aA 11 rfl<|AL.end (by kernel_rfl) (by exact hs.tail) (by exact hs.tail) ?_
 refine sr<|wm<|wZ ?_
 cases b
 ·have hf0:=hf0 rfl
  refine CW.cond rfl (fun h=>?_) (fun h=>?_)
  ·cases h
  ·refine ck<|cq<|sr<|wm<|wm<|wn rfl<|wF 1 u140 rfl ty3 rfl<|wl ty3 rfl ((hat.step hs.clear (by simp)).cell (j:=1) rfl)<|xT<|wZ<|CW.cond rfl (fun h=>?_) (fun h=>?_)
   ·refine sr<|wA<|wZ<|CW.ret ?_
    refine fin_ret1 rfl ?_
    exact⟨rfl,hs.clear⟩
   ·cases h
 ·have hf1:=hf1 rfl
  have hou:=hou rfl
  refine CW.cond rfl (fun h=>?_) (fun h=>?_)
  ·skip
   refine cr<|wm<|wF 0 u158 rfl ty76 rfl<|wl ty76 rfl (hs.c0 (v:=.slice a n c) rfl)<|wE rfl (run_call en88 rfl rfl) (hc2 _) ?_
   rintro e w ⟨rfl,hq⟩
   refine⟨_,rfl,?_⟩
   replace hs:=hs.callE hq
   refine wS ((used+(y.length+32) - (n+32):Nat):Int)<|wA<|wZ<|cq<|sr<|wm<|wm<|wn rfl<|wF 1 u140 rfl ty3 rfl<|wl ty3 rfl ((hat.step hs.clear (by simp)).cell (j:=1) rfl)<|xT<|wZ<|CW.cond rfl (fun h=>?_) (fun h=>?_)
   ·refine sr<|wA<|wZ<|CW.ret ?_
    refine fin_ret1 rfl ?_
    exact⟨rfl,hs.clear⟩
   ·cases h
  ·cases h
theorem lay_ok{y:U8}{v:Value} (hne:bs≠m) (w0:World) (hb:w0.heap[bs]?=some (blk 140 (stC k cap used last m gets puts))) (hm:w0.heap[m]?=some (mapObj M clock))
  (hM:Keys32 M) (hd:d.length=32) (hu:((findD d M 0).map (·.2)).getD zB=.agg #[.slice a n c,.int .i64 st]) (hb':(findD d M 0).isSome=b)
  (hy:Sl w0 1 v y.length (u8s y)) (hO:OutE v y [bs,m]) (hsy:y.length<1099511627776) (hsz:n<1099511627776) (hus:used<1099511627776) (hlast:last<1099511627776) (hou:b=true→n+32≤used)
  {used':Nat} (hf1:b=true→used'=used+(y.length+32) - (n+32)) (hf0:b=false→used'=used+(y.length+32)) (hcap:used'≤cap) :
  CP 90 #[pt bs,.agg (u8s d).toArray,v] w0 (fun e w'=>∃v' Lv,e=.returned (.int .i64 0)∧OwnSl 5 1 v' y.length (u8s y) Lv∧
   Step [bs,m] ((bs,blk 140 (stC k cap used' (last+1) m gets puts))::(m,mapObj (putM d (.agg #[v',.int .i64 (last+1:Nat)]) clock M) (putC d clock M))::Lv) w0 w'):=by
 have hs:Step [bs,m] [(bs,blk 140 (stC k cap used last m gets puts)),(m,mapObj M clock)] w0 w0:=Step.start (L:=[(bs,blk 140 (stC k cap used last m gets puts)),(m,mapObj M clock)]) (by simpa using hne) (by intro p hp;simp at hp;rcases hp with rfl | rfl;exact hb;exact hm)
 have hdl:(u8s d).length=32:=by rw[u8s,length_map,hd]
 have hc2:∀w,CP 88 #[.slice a n c] w (Ret0 (.int .i64 ((n+32:Nat):Int)) w):=fun w=>cost_specN w hsz
 have ob:∃u1:Nat,u1=used+(y.length+32):=⟨_,rfl⟩
 obtain⟨u1,hu1⟩:=ob
 refine calls (n:=61) Tryz.func90 rfl rfl rfl ?_
 refine sr<|WL.box (cs:=u8s d) rfl rfl rfl hs (fun b4 w hs=>?_)
 refine wA<|wZ<|cq<|CW.quiet mixedP (by kernel_rfl) hs ?_
 refine qm<|qn rfl<|qF 2 u140 rfl ty3 rfl<|qL ty3 rfl (fun w hs=>hs.c1 rfl)<|qm<|QL.enter rfl (fun w=>run_call en88 rfl rfl) (fun w hs=>cost_spec _ (hy.stepE hs hO) hsy) ?_
 refine qV (fun w hs=>run_add (c:=((u1:Nat):Int)) rfl rfl (by omega) (by omega))<|qA<|QL.nil (fun w hs=>?_)
 refine cq<|cq<|CW.any (A:=fun w=>Step [bs,m] [(b4,blk 44 (u8s d)),(bs,blk 140 (stC k cap used last m gets puts)),(m,mapObj M clock)] w0 w) (C:=fun w=>Step [bs,m] [(b4,blk 44 (u8s d)),(bs,blk 140 (stC k cap used last m gets puts)),(m,mapObj M clock)] w0 w) 1000000 12 mixedP rfl ?_
 replace hs:=hs.drew
 refine aM 0 rfl<|aN 1 rfl rfl<|aF 2 rfl 4 u140 rfl ty138 rfl<|aL 3 rfl ty138 rfl (fun w hs=>by exact hs.c1 rfl)<|aV 4 rfl (fun w hs=>run_loadN ty44 rfl hdl hs.a0)<|aV 5 rfl (fun w hs=>run_lookupE u138 (zBlob _) hM hd hu hb' rfl rfl (hs.get (o:=mapObj M clock) (by simp)))<|aM 6 rfl<|aX 7 rfl rfl rfl<|aX 8 rfl rfl rfl<|AL.one 9 (by kernel_rfl) rfl (by exact hs) (by exact hs) ?_
 refine WL.alloc ty158 rfl hs (fun b8 w hs=>?_)
 refine wZ<|⟨rfl,?_⟩
 refine AL.one 10 (by kernel_rfl) rfl (by exact hs.tail) (by exact hs.tail) ?_
 refine WL.storeAll ty158 rfl rfl (rfl) (Cells1.of_all rfl) hs (by rfl) (fun w hs=>?_)
 refine wZ<|⟨rfl,?_⟩
 refine aA 11 rfl<|AL.end (by kernel_rfl) (by exact hs.tail) (by exact hs.tail) ?_
 refine sr<|wm<|wZ ?_
 cases b
 ·have hf0:=hf0 rfl
  obtain rfl:used'=u1:=by omega
  refine CW.cond rfl (fun h=>?_) (fun h=>?_)
  ·cases h
  ·refine ck<|cq<|sr<|wm<|wm<|wn rfl<|wF 1 u140 rfl ty3 rfl<|wl ty3 rfl (hs.c2 rfl)<|xF<|wZ<|CW.cond rfl (fun h=>?_) (fun h=>?_)
   ·cases h
   ·refine ck<|sr<|wm<|wm<|wn rfl<|wF 2 u140 rfl ty3 rfl<|ws1 ty3 rfl rfl (rfl) (hs.front [_,_]) (fun w hs=>?_)
    refine wZ<|sr<|wm<|wn rfl<|wF 3 u140 rfl ty3 rfl<|wl ty3 rfl (hs.c0 rfl)<|wP ((last+1:Nat):Int)<|wn rfl<|wF 3 u140 rfl ty3 rfl<|ws1 ty3 rfl rfl (rfl) (hs) (fun w hs=>?_)
    refine wZ ?_
    replace hs:=Step.perm (L':=[_,_,_,_]) hs ((perm_append_comm (l₁:=[_]) (l₂:=[_,_])).append_right [_])
    refine cq<|CW.any (A:=fun w=>Step [bs,m] [(b8,blk 158 [.slice a n c,.int .i64 (st:Nat)]),(b4,blk 44 (u8s d)),(bs,blk 140 (stC k cap used' (last+1) m gets puts))] w0 w) (C:=fun w=>Step [bs,m] [(b8,blk 158 [.slice a n c,.int .i64 (st:Nat)]),(b4,blk 44 (u8s d)),(bs,blk 140 (stC k cap used' (last+1) m gets puts)),(m,mapObj M clock)] w0 w) 12 13 mixedP rfl ?_
    replace hs:=hs.drew
    refine aM 0 rfl<|aN 1 rfl rfl<|aF 2 rfl 4 u140 rfl ty138 rfl<|aL 3 rfl ty138 rfl (fun w hs=>hs.c2 (v:=.map (some m)) rfl)<|aV 4 rfl (fun w hs=>run_loadN ty44 rfl hdl hs.a1)<|aM 5 rfl<|aM 7 rfl<|aN 8 rfl rfl<|aF 9 rfl 3 u140 rfl ty3 rfl<|aL 10 rfl ty3 rfl (fun w hs=>hs.c2 (v:=.int .i64 (last+1:Nat)) rfl)<|AL.one 6 (by kernel_rfl) rfl (by exact Step.dropR (L1:=[_,_,_]) hs) (by exact hs) ?_
    refine wE rfl (run_call en83 rfl rfl) (clone_spec _ (hy.stepE hs hO) (by omega)) ?_
    rintro e w ⟨v',Lv,rfl,hu',hq⟩
    refine⟨_,rfl,?_⟩
    obtain⟨av,cv,rfl⟩:=hu'.form
    replace hs:=(Step.call0 hs hq).append_comm
    refine wZ<|⟨rfl,?_⟩
    refine aV 11 rfl (fun w hs=>run_build rfl (bld_blob _ _ _ _ _))<|AL.one 12 (by kernel_rfl) rfl (by exact Step.dropR (L1:=[_,_,_]) hs) (by exact hs.dropR (L1:=[_,_,_,_])) ?_
    refine WL.mapPut u138 rfl rfl rfl hM hd (hs.front [_,_,_]) (fun w hs=>?_)
    refine wZ<|⟨rfl,?_⟩
    refine AL.relax (by kernel_rfl) ?_
    refine AL.end (by kernel_rfl) (by exact Step.dropR (L1:=[_,_,_]) hs.tail) (trivial) ?_
    refine sr<|wA<|wZ<|CW.ret ?_
    refine fin_ret1 rfl ?_
    refine⟨_,Lv,rfl,hu',?_⟩
    exact Step.append_comm (L1:=Lv) (L2:=[_,_]) (Step.dropL (L1:=[_,_]) (Step.append_comm (L1:=[_,_]) (L2:=_::_::Lv) (hs.front [_,_,_])))
 ·have hf1:=hf1 rfl
  have hou:=hou rfl
  refine CW.cond rfl (fun h=>?_) (fun h=>?_)
  ·skip
   refine cr<|wm<|wF 0 u158 rfl ty76 rfl<|wl ty76 rfl (hs.c0 (v:=.slice a n c) rfl)<|wE rfl (run_call en88 rfl rfl) (hc2 _) ?_
   rintro e w ⟨rfl,hq⟩
   refine⟨_,rfl,?_⟩
   replace hs:=hs.callE hq
   refine wS ((used':Nat):Int)<|wA<|wZ<|cq<|sr<|wm<|wm<|wn rfl<|wF 1 u140 rfl ty3 rfl<|wl ty3 rfl (hs.c2 rfl)<|xF<|wZ<|CW.cond rfl (fun h=>?_) (fun h=>?_)
   ·cases h
   ·refine ck<|sr<|wm<|wm<|wn rfl<|wF 2 u140 rfl ty3 rfl<|ws1 ty3 rfl rfl (rfl) (hs.front [_,_]) (fun w hs=>?_)
    refine wZ<|sr<|wm<|wn rfl<|wF 3 u140 rfl ty3 rfl<|wl ty3 rfl (hs.c0 rfl)<|wP ((last+1:Nat):Int)<|wn rfl<|wF 3 u140 rfl ty3 rfl<|ws1 ty3 rfl rfl (rfl) (hs) (fun w hs=>?_)
    refine wZ ?_
    replace hs:=Step.perm (L':=[_,_,_,_]) hs ((perm_append_comm (l₁:=[_]) (l₂:=[_,_])).append_right [_])
    refine cq<|CW.any (A:=fun w=>Step [bs,m] [(b8,blk 158 [.slice a n c,.int .i64 (st:Nat)]),(b4,blk 44 (u8s d)),(bs,blk 140 (stC k cap used' (last+1) m gets puts))] w0 w) (C:=fun w=>Step [bs,m] [(b8,blk 158 [.slice a n c,.int .i64 (st:Nat)]),(b4,blk 44 (u8s d)),(bs,blk 140 (stC k cap used' (last+1) m gets puts)),(m,mapObj M clock)] w0 w) 12 13 mixedP rfl ?_
    replace hs:=hs.drew
    refine aM 0 rfl<|aN 1 rfl rfl<|aF 2 rfl 4 u140 rfl ty138 rfl<|aL 3 rfl ty138 rfl (fun w hs=>hs.c2 (v:=.map (some m)) rfl)<|aV 4 rfl (fun w hs=>run_loadN ty44 rfl hdl hs.a1)<|aM 5 rfl<|aM 7 rfl<|aN 8 rfl rfl<|aF 9 rfl 3 u140 rfl ty3 rfl<|aL 10 rfl ty3 rfl (fun w hs=>hs.c2 (v:=.int .i64 (last+1:Nat)) rfl)<|AL.one 6 (by kernel_rfl) rfl (by exact Step.dropR (L1:=[_,_,_]) hs) (by exact hs) ?_
    refine wE rfl (run_call en83 rfl rfl) (clone_spec _ (hy.stepE hs hO) (by omega)) ?_
    rintro e w ⟨v',Lv,rfl,hu',hq⟩
    refine⟨_,rfl,?_⟩
    obtain⟨av,cv,rfl⟩:=hu'.form
    replace hs:=(Step.call0 hs hq).append_comm
    refine wZ<|⟨rfl,?_⟩
    refine aV 11 rfl (fun w hs=>run_build rfl (bld_blob _ _ _ _ _))<|AL.one 12 (by kernel_rfl) rfl (by exact Step.dropR (L1:=[_,_,_]) hs) (by exact hs.dropR (L1:=[_,_,_,_])) ?_
    refine WL.mapPut u138 rfl rfl rfl hM hd (hs.front [_,_,_]) (fun w hs=>?_)
    refine wZ<|⟨rfl,?_⟩
    refine AL.relax (by kernel_rfl) ?_
    refine AL.end (by kernel_rfl) (by exact Step.dropR (L1:=[_,_,_]) hs.tail) (trivial) ?_
    refine sr<|wA<|wZ<|CW.ret ?_
    refine fin_ret1 rfl ?_
    refine⟨_,Lv,rfl,hu',?_⟩
    exact Step.append_comm (L1:=Lv) (L2:=[_,_]) (Step.dropL (L1:=[_,_]) (Step.append_comm (L1:=[_,_]) (L2:=_::_::Lv) (hs.front [_,_,_])))
  ·cases h
end
end Go.Gx
namespace Go.Gx
open Go.Proofs List
attribute [local irreducible] shaL cutD frontL
section
variable{P:Program}{n:Nat}{f:Slots}{ds:List Deferred}{w:World}
theorem CW.sM{Q:Post}{x y:Code} (M:Slots→World→Prop) (h:CW P x (thenC (fun f' ds' w'=>ds'=ds∧M f' w') Q) n f ds w) (hr:∀f' w',M f' w'→CW P y Q n f' ds w'):CW P (.seq x y) Q n f ds w:=
 CW.seq (h.mono fun e f' ds' w' hq=>by
  cases e with
  | normal=>
   obtain⟨rfl,hM⟩:=hq
   exact hr _ _ hM
  | exit id=>exact hq
  | goto id=>exact hq
  | ret=>exact hq
  | panic ch=>exact hq
  | outgrown=>exact hq)
end
section
variable{bs k cap used last m gets puts clock st n c:Nat}{a:Option Addr}{M:List (List UInt8×Value×Nat)}{d:U8}{b:Bool}{y:U8}{v:Value}
theorem put_long (hne:bs≠m) (w0:World) (hb:w0.heap[bs]?=some (blk 140 (stC k cap used last m gets puts))) (hm:w0.heap[m]?=some (mapObj M clock))
  (hy:Sl w0 1 v y.length (u8s y)) (hp:puts<1099511627776) (hlong:1048576<y.length) :
  CP 36 #[pt bs,v] w0 (fun e w'=>e=.returned (.tuple #[.agg (u8s zD).toArray,.int .i64 2])∧Step [bs,m] [(bs,blk 140 (stC k cap used last m gets (puts+1))),(m,mapObj M clock)] w0 w'):=by
 have hs:Step [bs,m] [(bs,blk 140 (stC k cap used last m gets puts)),(m,mapObj M clock)] w0 w0:=Step.start (L:=[(bs,blk 140 (stC k cap used last m gets puts)),(m,mapObj M clock)]) (by simpa using hne) (by intro p hp;simp at hp;rcases hp with rfl | rfl;exact hb;exact hm)
 have ob:=Sl.form hy
 obtain⟨av,cv,rfl⟩:=ob
 refine calls (n:=64) Tryz.func36 rfl rfl rfl ?_
 refine sr<|WL.alloc ty44 rfl hs (fun b4 w hs=>?_)
 refine wA<|wZ<|sr<|wm<|wn rfl<|wF 5 u140 rfl ty50 rfl<|wF 1 u50 rfl ty3 rfl<|wl ty3 rfl (hs.c1 (v:=.int .i64 (puts:Nat)) rfl)<|wP ((puts+1:Nat):Int)<|wn rfl<|wF 5 u140 rfl ty50 rfl<|wF 1 u50 rfl ty3 rfl<|ws1 ty3 rfl rfl (rfl) (hs.swap) (fun w hs=>?_)
 refine wZ ?_
 replace hs:Step [bs,m] [(bs,blk 140 (stC k cap used last m gets (puts+1))),(b4,blk 44 (u8s zD)),(m,mapObj M clock)] w0 w:=hs
 refine cq<|sr<|wm<|wL u76 rfl<|xT<|wZ<|CW.cond rfl (fun h=>?_) (fun h=>?_)
 ·refine sr<|wV (run_build rfl ((bld_dig _)))<|WL.storeAll ty44 rfl rfl ((by rfl)) (Cells1.u8s _) (hs.swap) rfl (fun w hs=>?_)
  refine wA<|wZ<|CW.ret ?_
  refine fin_cellTmp rfl rfl (run_loadVarN ty44 (by rfl) hs.a0) ?_
  exact⟨rfl,hs.tail⟩
 ·cases h
theorem put_most{x:U8}{N:Nat} (hne:bs≠m) (w0:World) (hb:w0.heap[bs]?=some (blk 140 (stC k cap used last m gets puts))) (hm:w0.heap[m]?=some (mapObj M clock))
  (hM:Keys32 M) (hu:((findD (frontL y k) M 0).map (·.2)).getD zB=.agg #[.slice a x.length c,.int .i64 st]) (hb':(findD (frontL y k) M 0).isSome=b) (hx:Sl w0 1 (.slice a x.length c) x.length (u8s x)) (hxO:Outside (.slice a x.length c) [bs,m]) (hxr:Room (.slice a x.length c)) (hsx:x.length<1099511627776)
  (hy:Sl w0 1 v y.length (u8s y)) (hO:OutE v y [bs,m]) (hcp:Room v) (hp:puts<1099511627776) (hsy:y.length<1099511627776) (hshort:y.length≤1048576) (hk1:1≤k) (hk:k≤32)
  (hus:used<1099511627776) (hlast:last<1099511627776) (hou:b=true→x.length+32≤used) (hf1:b=true→N=used+(y.length+32) - (x.length+32)) (hf0:b=false→N=used+(y.length+32)) :
  CP 36 #[pt bs,v] w0 (fun e w'=>(b=true∧x=y∧e=.returned (.tuple #[.agg (u8s (frontL y k)).toArray,.int .i64 0])∧Step [bs,m] [(bs,blk 140 (stC k cap used last m gets (puts+1))),(m,mapObj M clock)] w0 w')∨
   (b=true∧x≠y∧frontL x k=frontL y k∧e=.returned (.tuple #[.agg (u8s zD).toArray,.int .i64 44])∧Step [bs,m] [(bs,blk 140 (stC k cap used last m gets (puts+1))),(m,mapObj M clock)] w0 w')∨
   ((b=true→x≠y∧frontL x k≠frontL y k)∧cap<N∧e=.returned (.tuple #[.agg (u8s zD).toArray,.int .i64 43])∧Step [bs,m] [(bs,blk 140 (stC k cap used last m gets (puts+1))),(m,mapObj M clock)] w0 w')∨
   ((b=true→x≠y∧frontL x k≠frontL y k)∧N≤cap∧∃v' Lv,e=.returned (.tuple #[.agg (u8s (frontL y k)).toArray,.int .i64 0])∧OwnSl 5 1 v' y.length (u8s y) Lv∧
    Step [bs,m] ((bs,blk 140 (stC k cap N (last+1) m gets (puts+1)))::(m,mapObj (putM (frontL y k) (.agg #[v',.int .i64 (last+1:Nat)]) clock M) (putC (frontL y k) clock M))::Lv) w0 w')):=by
 have hdl:(u8s (frontL y k)).length=32:=by rw[u8s,length_map,frontL_len hk]
 have hd:=frontL_len (x:=y) hk
 have hs:Step [bs,m] [(bs,blk 140 (stC k cap used last m gets puts)),(m,mapObj M clock)] w0 w0:=Step.start (L:=[(bs,blk 140 (stC k cap used last m gets puts)),(m,mapObj M clock)]) (by simpa using hne) (by intro p hp;simp at hp;rcases hp with rfl | rfl;exact hb;exact hm)
 have ob:=Sl.form hy
 obtain⟨av,cv,rfl⟩:=ob
 refine calls (n:=64) Tryz.func36 rfl rfl rfl ?_
 refine sr<|WL.alloc ty44 rfl hs (fun b4 w hs=>?_)
 refine wA<|wZ<|sr<|wm<|wn rfl<|wF 5 u140 rfl ty50 rfl<|wF 1 u50 rfl ty3 rfl<|wl ty3 rfl (hs.c1 (v:=.int .i64 (puts:Nat)) rfl)<|wP ((puts+1:Nat):Int)<|wn rfl<|wF 5 u140 rfl ty50 rfl<|wF 1 u50 rfl ty3 rfl<|ws1 ty3 rfl rfl (rfl) (hs.swap) (fun w hs=>?_)
 refine wZ ?_
 replace hs:Step [bs,m] [(bs,blk 140 (stC k cap used last m gets (puts+1))),(b4,blk 44 (u8s zD)),(m,mapObj M clock)] w0 w:=hs
 refine cq<|sr<|wm<|wL u76 rfl<|xF<|wZ<|CW.cond rfl (fun h=>?_) (fun h=>?_)
 ·cases h
 refine ck<|sr<|wm<|wm<|wE rfl (run_call en91 rfl rfl) (digest_spec _ (hs.c0 rfl) (hy.stepE hs hO) hcp hsy hk1 hk) ?_
 rintro e w ⟨rfl,hq⟩
 refine⟨_,rfl,?_⟩
 replace hs:=hs.callE hq
 refine WL.alloc ty44 rfl hs (fun b6 w hs=>?_)
 refine WL.storeAll ty44 rfl rfl ((hdl)) (Cells1.u8s _) hs (by rfl) (fun w hs=>?_)
 refine wZ<|CW.sM (fun f w=>(b=true→x≠y∧frontL x k≠frontL y k)∧∃(b7:Nat) (o7:Obj),Step [bs,m] [(b7,o7),(b6,blk 44 (u8s (frontL y k))),(bs,blk 140 (stC k cap used last m gets (puts+1))),(b4,blk 44 (u8s zD)),(m,mapObj M clock)] w0 w∧Holds f [(0,pt bs),(1,.slice av y.length cv),(4,pt b4),(6,pt b6)]) ?_ ?_
 ·skip
  refine cq<|CW.any (A:=fun w=>Step [bs,m] [(b6,blk 44 (u8s (frontL y k))),(bs,blk 140 (stC k cap used last m gets (puts+1))),(b4,blk 44 (u8s zD)),(m,mapObj M clock)] w0 w) (C:=fun w=>Step [bs,m] [(b6,blk 44 (u8s (frontL y k))),(bs,blk 140 (stC k cap used last m gets (puts+1))),(b4,blk 44 (u8s zD)),(m,mapObj M clock)] w0 w) 1000000 12 mixedP rfl ?_
  replace hs:=hs.drew
  refine aM 0 rfl<|aN 1 rfl rfl<|aF 2 rfl 4 u140 rfl ty138 rfl<|aL 3 rfl ty138 rfl (fun w hs=>by exact hs.c1 rfl)<|aV 4 rfl (fun w hs=>run_loadN ty44 rfl hdl (by exact hs.a0))<|aV 5 rfl (fun w hs=>run_lookupE u138 (zBlob _) hM hd hu hb' rfl rfl (hs.get (o:=mapObj M clock) (by simp)))<|aM 6 rfl<|aX 7 rfl rfl rfl<|aX 8 rfl rfl rfl<|AL.one 9 (by kernel_rfl) rfl (by exact hs) (by exact hs) ?_
  refine WL.alloc ty158 rfl hs (fun b7 w hs=>?_)
  refine wZ<|⟨rfl,?_⟩
  refine AL.one 10 (by kernel_rfl) rfl (by exact hs.tail) (by exact hs.tail) ?_
  refine WL.storeAll ty158 rfl rfl (rfl) (Cells1.of_all rfl) hs (by rfl) (fun w hs=>?_)
  refine wZ<|⟨rfl,?_⟩
  refine aA 11 rfl<|AL.end (by kernel_rfl) (by exact hs.tail) (by exact hs.tail) ?_
  cases b
  ·refine cB<|sr<|wm<|wm<|wz<|wz<|wz<|wz<|pF<|wA<|wZ<|CW.cond rfl (fun h=>?_) (fun h=>?_)
   ·cases h
   ·refine cq<|CW.quiet mixedP (by kernel_rfl) hs ?_
    refine qm<|qm<|qz<|qz<|qz<|qz<|qz<|qz<|qP<|qA<|QL.nil (fun w hs=>?_)
    refine CW.cond rfl (fun h=>?_) (fun h=>?_)
    ·cases h
    ·refine ck ?_
     exact⟨rfl,(fun h=>by cases h),_,_,hs,rfl,rfl,rfl,rfl,trivial⟩
  ·refine cB<|sr<|wm<|wm<|wy<|wF 0 u158 rfl ty76 rfl<|wy<|wl ty76 rfl (hs.c0 (v:=.slice a x.length c) rfl)<|wy<|wm<|wy<|wE rfl (run_call en92 rfl rfl) (equal_spec _ (hx.step hs hxO) (hy.stepE hs hO)) ?_
   rintro e w ⟨rfl,hq⟩
   refine⟨_,rfl,?_⟩
   replace hs:=hs.callE hq
   refine pT<|wA<|wZ<|CW.condP rfl (fun h=>?_) (fun h=>?_)
   ·refine sr<|wR ty44 rfl hdl hs.a1<|WL.storeAll ty44 rfl rfl (hdl) (Cells1.u8s _) (hs.front [_,_,_]) rfl (fun w hs=>?_)
    refine wA<|wZ<|CW.ret ?_
    refine fin_cellTmp rfl rfl (run_loadVarN ty44 (by assumption) hs.a0) ?_
    exact .inl ⟨rfl,h,rfl,hs.tail.tail.tail⟩
   ·have hxy:x≠y:=h
    refine cq<|CW.quiet mixedP (by kernel_rfl) hs ?_
    refine qm<|qm<|qy<|qm<|qy<|qF 0 u158 rfl ty76 rfl<|qy<|qL ty76 rfl (fun w hs=>hs.c0 (v:=.slice a x.length c) rfl)<|qy<|QL.enter rfl (fun w=>run_call en91 rfl rfl) (fun w hs=>digest_spec _ (hs.c2 rfl) (hx.step hs hxO) hxr hsx hk1 hk) ?_
    refine qy<|qV (fun w hs=>run_loadN ty44 rfl hdl hs.a1)<|qy<|qV (fun w hs=>run_eqDig (frontL_len hk) hd rfl rfl)<|qT<|qA<|QL.nil (fun w hs=>?_)
    refine CW.condP rfl (fun h=>?_) (fun h=>?_)
    ·refine sr<|wV (run_build rfl ((bld_dig _)))<|WL.storeAll ty44 rfl rfl ((by rfl)) (Cells1.u8s _) (hs.front [_,_,_]) rfl (fun w hs=>?_)
     refine wA<|wZ<|CW.ret ?_
     refine fin_cellTmp rfl rfl (run_loadVarN ty44 (by rfl) hs.a0) ?_
     exact .inr (.inl ⟨rfl,hxy,h,rfl,hs.tail.tail.tail⟩)
    ·refine ck ?_
     exact⟨rfl,(fun _=>⟨hxy,h⟩),_,_,hs,rfl,rfl,rfl,rfl,trivial⟩
 clear hs
 rintro f w ⟨hdi,b7,o7,hs,hf⟩
 have ob:=hf.chain
 obtain⟨g,rfl⟩:=ob
 by_cases hc:N≤cap
 ·replace hs:=Step.front [_,_,_] (hs.front [_,_,_,_])
  refine cq<|sr<|wm<|wR ty44 rfl hdl hs.a3<|wm<|wE rfl (run_call en90 rfl rfl) (lay_ok hne _ (hs.get (o:=blk 140 (stC k cap used last m gets (puts+1))) (by simp)) (hs.get (o:=mapObj M clock) (by simp)) hM hd hu hb' (hy.stepE hs hO) hO hsy hsx hus hlast hou hf1 hf0 hc) ?_
  rintro e w ⟨v',Lv,rfl,hu',hq⟩
  refine⟨_,rfl,?_⟩
  replace hs:=Step.append_comm (L1:=_::_::Lv) (L2:=[_,_,_]) (Step.call (L1:=[_,_]) hs hq)
  refine wA<|wZ<|sr<|wm<|nF<|wZ<|CW.cond rfl (fun h=>?_) (fun h=>?_)
  ·cases h
  ·refine ck<|sr<|wR ty44 rfl hdl hs.a1<|WL.storeAll ty44 rfl rfl (hdl) (Cells1.u8s _) (hs.front [_,_]) rfl (fun w hs=>?_)
   refine wA<|wZ<|CW.ret ?_
   refine fin_cellTmp rfl rfl (run_loadVarN ty44 (by assumption) hs.a0) ?_
   exact .inr (.inr (.inr ⟨hdi,hc,v',Lv,rfl,hu',hs.tail.tail.tail⟩))
 ·refine cq<|sr<|wm<|wR ty44 rfl hdl hs.a1<|wm<|wE rfl (run_call en90 rfl rfl) (lay_full hne _ (hs.get (o:=blk 140 (stC k cap used last m gets (puts+1))) (by simp)) (hs.get (o:=mapObj M clock) (by simp)) hM hd hu hb' (hy.stepE hs hO) hsy hsx hus hou (fun h=>by rw[←hf1 h];omega) (fun h=>by rw[←hf0 h];omega)) ?_
  rintro e w ⟨rfl,hq⟩
  refine⟨_,rfl,?_⟩
  replace hs:=hs.callE hq
  refine wA<|wZ<|sr<|wm<|nT<|wZ<|CW.cond rfl (fun h=>?_) (fun h=>?_)
  ·refine sr<|wV (run_build rfl ((bld_dig _)))<|wm<|WL.storeAll ty44 rfl rfl ((by rfl)) (Cells1.u8s _) (hs.front [_,_,_]) rfl (fun w hs=>?_)
   refine wA<|wZ<|CW.ret ?_
   refine fin_cellTmp rfl rfl (run_loadVarN ty44 (by rfl) hs.a0) ?_
   exact .inr (.inr (.inl ⟨hdi,by omega,rfl,hs.tail.tail.tail⟩))
  ·cases h
end
end Go.Gx
