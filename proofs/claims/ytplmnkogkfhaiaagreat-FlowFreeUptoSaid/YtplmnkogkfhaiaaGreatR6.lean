/- The document's Store: lay, walked. The document's Store: Put, Plant, Limit. The document's Store: Put. The document's Store: Evict, Twin. The rows that All sorts: the closure; slices.SortFunc by the shelf's contract. slices.SortFunc at the rows of a Store: any length. The Store: All. Ranges over a f -/
import Derived.Test.YtplmnkogkfhaiaaGreatR5
import Derived.Test.YtplmnkogkfhaiaaGreatR1
import Derived.Test.YtplmnkogkfhaiaaGreatSort
import Derived.Shelf.SlSortCmp.NoneTotal
import Derived.RangeFuncRecord
import Derived.RangeFuncNested
import Derived.OrdersIn
set_option linter.unusedVariables false
set_option linter.unusedSimpArgs false
set_option maxRecDepth 100000
namespace Go.Gx
open Go.Proofs List
attribute [local irreducible] shaL cutD frontL
section
variable{br:Nat}{s:AS}{D R:OL}{w0:World}{d y:U8}{v:Value}{n:Nat}
set_option maxHeartbeats 4000000 in
theorem rlay_abs (hR:RRep br s D R) (ok:s.Ok) (hfew:s.Few n) (hn:n<1099511627776) (hw:Lives (R++D) w0) (hd:d.length=32) (hy:Sl w0 1 v y.length (u8s y)) (hO:OutE v y (R.map (·.1))) (hsy:y.length<1099511627776) :
  CP 114 #[pt br,.agg (u8s d).toArray,v] w0 fun e w'=>∃R' D',e=.returned (.tuple #[])∧RRep br { s with last:=s.last+1,X:=insX ⟨d,y,s.last+1⟩ s.X } (D'++D) R'∧Step (R.map (·.1)) (R'++D') w0 w':=by
 have ob:=hR.open ok hw
 obtain⟨a,c,Lv,T,o⟩:=ob
 have hla:=hfew.last
 have hdl:(u8s d).length=32:=by rw[u8s,length_map,hd]
 have hXl:=used_len s.X
 have huse:=ok.used
 have hs:Step (R.map (·.1)) ((br,blk 54 (rsC s.k s.cap s.last (.slice a s.X.length c) s.gets s.puts))::Lv) w0 w0:=by have h:=hw.left;rw[←o.eqR];exact h
 have ob:∃S,R.map (·.1)=S:=⟨_,rfl⟩
 obtain⟨S,hSe⟩:=ob
 have hlat:∀{w:World},Step S ((br,blk 54 (rsC s.k s.cap (s.last+1) (.slice a s.X.length c) s.gets s.puts))::Lv) w0 w→ROpen br ⟨s.k,s.cap,s.last+1,s.gets,s.puts,s.X⟩ D ((br,blk 54 (rsC s.k s.cap (s.last+1) (.slice a s.X.length c) s.gets s.puts))::Lv) w a c Lv T:=fun h=>o.later s.k s.cap (s.last+1) s.gets s.puts (by rw[hSe];exact h)
 have ok1:(⟨s.k,s.cap,s.last+1,s.gets,s.puts,s.X⟩:AS).Ok:=⟨ok.k1,ok.k2,ok.cap,ok.sorted,ok.len,ok.used⟩
 have hpl:=fun {w a c Lv T R} (h:ROpen br ⟨s.k,s.cap,s.last+1,s.gets,s.puts,s.X⟩ D R w a c Lv T)=>place_spec (d:=d) h ok1 hd
 simp only[hSe] at hs hO⊢
 have ob:∃b,b=Blb.mk d y (s.last+1):=⟨_,rfl⟩
 obtain⟨b,hbe⟩:=ob
 have hbd:b.d=d:=by rw[hbe]
 have hple:=posX_le d s.X
 have hTl:=o.view.length
 rw[←hbe]
 refine calls (n:=63) Tryz.func114 rfl rfl rfl ?_
 refine sr<|WL.box (cs:=u8s d) rfl rfl rfl hs (fun b4 w hs=>?_)
 refine wZ<|sr<|wm<|wn rfl<|wF 2 u54 rfl ty3 rfl<|wl ty3 rfl (hs.c1 (v:=.int .i64 (s.last:Nat)) rfl)<|wP ((s.last+1:Nat):Int)<|wn rfl<|wF 2 u54 rfl ty3 rfl<|WL.store1_1 ty3 rfl rfl (rfl) hs (by first | (simp;done) | omega | (simp only[length_append,length_replicate,length_cons,length_nil,length_set];omega) | (simp[Ent.cells,u8s];done) | exact Nat.le_of_ble_eq_true rfl) (fun w hs=>?_)
 refine wZ ?_
 replace hs:Step S ((b4,blk 44 (u8s d))::(br,blk 54 (rsC s.k s.cap (s.last+1) (.slice a s.X.length c) s.gets s.puts))::Lv) w0 w:=hs
 unfold AS.has at hpl
 simp only at hpl
 refine CW.sM (fun f w=>∃(xa:Option Addr) (xc b6:Nat) (Lx:OL),OwnSl 5 1 (.slice xa y.length xc) y.length (u8s y) Lx∧Step S ((b4,blk 44 (u8s d))::(b6,blk 80 (rbC (d,.slice xa y.length xc,s.last+1)))::((br,blk 54 (rsC s.k s.cap (s.last+1) (.slice a s.X.length c) s.gets s.puts))::Lv++Lx)) w0 w∧Holds f [(0,pt br),(4,pt b4),(6,pt b6)]) ?_ ?_
 ·skip
  refine CW.any (A:=fun w=>Step S ((b4,blk 44 (u8s d))::(br,blk 54 (rsC s.k s.cap (s.last+1) (.slice a s.X.length c) s.gets s.puts))::Lv) w0 w) (C:=fun w=>Step S ((b4,blk 44 (u8s d))::(br,blk 54 (rsC s.k s.cap (s.last+1) (.slice a s.X.length c) s.gets s.puts))::Lv) w0 w) 1000000 11 mixedP rfl ?_
  replace hs:=hs.drew
  refine aV 0 rfl (fun w hs=>run_loadN ty44 rfl hdl hs.a0)<|aM 2 rfl<|aM 4 rfl<|aN 5 rfl rfl<|aF 6 rfl 2 u54 rfl ty3 rfl<|aL 7 rfl ty3 rfl (fun w hs=>hs.c1 (v:=.int .i64 (s.last+1:Nat)) rfl)<|AL.two 1 9 (by kernel_rfl) rfl rfl (by exact hs) (by exact hs) ?_ ?_
  ·refine WL.buildSlice (cs:=[]) u76 ty5 rfl (by decide) rfl (by rfl) rfl hs (fun b18 w hs=>?_)
   refine wZ<|⟨rfl,?_⟩
   refine AL.two 3 9 (by kernel_rfl) rfl rfl (by exact hs.tail) (by exact hs.tail) ?_ ?_
   ·refine WL.append u76 u76 ty5 rfl (by decide) rfl rfl (OwnSl.mk (b:=b18) (xs:=[]) (k:=0) rfl) ((by exact hs)) (hy.stepE hs hO) (Cells1.u8s _) (by omega) rfl (fun v20 Lv20 w hv20 hs=>?_)
    obtain⟨xa,xc,rfl⟩:=hv20.form
    refine wZ<|⟨rfl,?_⟩
    refine aV 8 rfl (fun w hs=>run_build rfl ((bld_rb hd xa _ xc (s.last+1) _)))<|AL.one 9 (by kernel_rfl) rfl (by exact hs.dropL (L1:=Lv20)) (by exact hs.dropL (L1:=Lv20)) ?_
    refine WL.alloc ty80 rfl hs (fun b6 w hs=>?_)
    refine wZ<|⟨rfl,?_⟩
    refine AL.one 10 (by kernel_rfl) rfl (by exact(hs.tail).dropL (L1:=Lv20)) (by exact(hs.tail).dropL (L1:=Lv20)) ?_
    refine WL.storeAll ty80 rfl rfl ((rbC_len hd)) (rbC_cells1 rfl) hs (by rfl) (fun w hs=>?_)
    refine wZ<|⟨rfl,?_⟩
    refine AL.end (by kernel_rfl) (by exact(hs.tail).dropL (L1:=Lv20)) (by exact(hs.tail).dropL (L1:=Lv20)) ?_
    have e0:0+y.length=y.length:=Nat.zero_add _
    have hv:OwnSl 5 1 (.slice xa y.length xc) y.length (u8s y) Lv20:=by have h:=hv20;rw[e0,nil_append] at h;exact h
    replace hs:=(hs.perm (List.Perm.cons _ (perm_append_comm (l₁:=Lv20) (l₂:=_::_::Lv)))).swap
    rw[e0] at hs
    exact⟨rfl,xa,xc,b6,Lv20,hv,hs,rfl,rfl,rfl,trivial⟩
   ·refine WL.alloc ty80 rfl hs (fun b6 w hs=>?_)
    refine wZ<|⟨rfl,?_⟩
    refine AL.one 3 (by kernel_rfl) rfl (by exact hs.tail.tail) (by exact hs.tail.tail) ?_
    refine WL.append u76 u76 ty5 rfl (by decide) rfl rfl (OwnSl.mk (b:=b18) (xs:=[]) (k:=0) rfl) (hs.swap) (hy.stepE hs hO) (Cells1.u8s _) (by omega) rfl (fun v20 Lv20 w hv20 hs=>?_)
    obtain⟨xa,xc,rfl⟩:=hv20.form
    replace hs:=hs.front Lv20
    refine wZ<|⟨rfl,?_⟩
    refine aV 8 rfl (fun w hs=>run_build rfl ((bld_rb hd xa _ xc (s.last+1) _)))<|AL.one 10 (by kernel_rfl) rfl (by exact(hs.tail).dropL (L1:=Lv20)) (by exact(hs.tail).dropL (L1:=Lv20)) ?_
    refine WL.storeAll ty80 rfl rfl ((rbC_len hd)) (rbC_cells1 rfl) hs (by rfl) (fun w hs=>?_)
    refine wZ<|⟨rfl,?_⟩
    refine AL.end (by kernel_rfl) (by exact(hs.tail).dropL (L1:=Lv20)) (by exact(hs.tail).dropL (L1:=Lv20)) ?_
    have e0:0+y.length=y.length:=Nat.zero_add _
    have hv:OwnSl 5 1 (.slice xa y.length xc) y.length (u8s y) Lv20:=by have h:=hv20;rw[e0,nil_append] at h;exact h
    replace hs:=(hs.perm (List.Perm.cons _ (perm_append_comm (l₁:=Lv20) (l₂:=_::_::Lv)))).swap
    rw[e0] at hs
    exact⟨rfl,xa,xc,b6,Lv20,hv,hs,rfl,rfl,rfl,trivial⟩
  ·refine WL.alloc ty80 rfl hs (fun b6 w hs=>?_)
   refine wZ<|⟨rfl,?_⟩
   refine AL.one 1 (by kernel_rfl) rfl (by exact hs.tail) (by exact hs.tail) ?_
   refine WL.buildSlice (cs:=[]) u76 ty5 rfl (by decide) rfl (by rfl) rfl hs (fun b18 w hs=>?_)
   refine wZ<|⟨rfl,?_⟩
   refine AL.one 3 (by kernel_rfl) rfl (by exact hs.tail.tail) (by exact hs.tail.tail) ?_
   refine WL.append u76 u76 ty5 rfl (by decide) rfl rfl (OwnSl.mk (b:=b18) (xs:=[]) (k:=0) rfl) (hs) (hy.stepE hs hO) (Cells1.u8s _) (by omega) rfl (fun v20 Lv20 w hv20 hs=>?_)
   obtain⟨xa,xc,rfl⟩:=hv20.form
   replace hs:=hs.front Lv20
   refine wZ<|⟨rfl,?_⟩
   refine aV 8 rfl (fun w hs=>run_build rfl ((bld_rb hd xa _ xc (s.last+1) _)))<|AL.one 10 (by kernel_rfl) rfl (by exact(hs.tail).dropL (L1:=Lv20)) (by exact(hs.tail).dropL (L1:=Lv20)) ?_
   refine WL.storeAll ty80 rfl rfl ((rbC_len hd)) (rbC_cells1 rfl) hs (by rfl) (fun w hs=>?_)
   refine wZ<|⟨rfl,?_⟩
   refine AL.end (by kernel_rfl) (by exact(hs.tail).dropL (L1:=Lv20)) (by exact(hs.tail).dropL (L1:=Lv20)) ?_
   have e0:0+y.length=y.length:=Nat.zero_add _
   have hv:OwnSl 5 1 (.slice xa y.length xc) y.length (u8s y) Lv20:=by have h:=hv20;rw[e0,nil_append] at h;exact h
   replace hs:=(hs.perm (List.Perm.cons _ (perm_append_comm (l₁:=Lv20) (l₂:=_::_::Lv)))).swap
   rw[e0] at hs
   exact⟨rfl,xa,xc,b6,Lv20,hv,hs,rfl,rfl,rfl,trivial⟩
 clear hs
 rintro f w ⟨xa,xc,b6,Lv20,hv,hs,hf⟩
 have ob:=hf.chain
 obtain⟨g,rfl⟩:=ob
 have hrb:∀{X:OL},(∀p∈Lv20,p∈X)→RbB X (d,.slice xa y.length xc,s.last+1) b:=fun {X} h=>⟨hbd.symm,by rw[hbe],Lv20,by rw[hbe];exact hv,h⟩
 cases hfx:findX d s.X with
 | some b0=>
  rw[hfx] at hpl
  have ob:=pos_some ok.sorted hfx
  obtain⟨hb0,hb0d⟩:=ob
  have hlt:=(List.getElem?_eq_some_iff.1 hb0).1
  have hnil:=o.nilOr
  obtain⟨h1,h2,h3⟩ | ⟨bv,more,hae,hLe,hcl,hnc⟩:=hnil
  ·rw[h2] at hlt;simp at hlt
  refine sr<|wm<|wR ty44 rfl hdl hs.a0<|wE rfl (run_call en115 rfl rfl) (hpl (hlat (Step.dropR (L1:=_::Lv) (Step.tail (Step.tail hs))))) ?_
  rintro e w ⟨rfl,hq⟩
  refine⟨_,rfl,?_⟩
  replace hs:=hs.callE hq
  refine wm<|wx rfl rfl<|wx rfl rfl<|wA<|wA<|wZ ?_
  subst hae
  subst hLe
  refine cq<|sr<|wm<|wZ<|CW.cond rfl (fun h=>?_) (fun h=>?_)
  ·refine cq<|CW.quietT (l1:=[_,_,_,_,_,_,_]) (l2:=[_]) 7 rfl mixedP rfl (by kernel_rfl) hs ?_
   refine qm<|qn rfl<|qF 3 u54 rfl ty52 rfl<|qL ty52 rfl (fun w hs=>(Step.tail (Step.tail hs)).c0 (v:=.slice (some ⟨bv,0,none⟩) s.X.length c) rfl)<|qm<|qV (fun w hs=>run_loadN ty80 rfl (rbC_len hd) hs.a1)<|qI u52 ty80 rfl rfl<|QL.nil (fun w hs=>?_)
   refine WL.storeN ty80 rfl rfl ((rbC_len hd)) (rbC_cells1 rfl) (hs.front [_,_,_]) (by first | (simp;done) | omega | (simp only[length_append,length_replicate,length_cons,length_nil,length_set];omega) | (simp[Ent.cells,u8s];done) | exact Nat.le_of_ble_eq_true rfl) (fun w hs=>?_)
   refine wZ ?_
   replace hs:=Step.blkEq (rows_set o.len (by omega) hd more) hs
   refine CW.ret ?_
   refine fin_ret0 rfl ?_
   have e:=ins_there (b:=b) ok.sorted (by rw[hbd,hfx];rfl)
   rw[hbd] at e
   refine⟨_,Lv20,rfl,⟨.slice (some ⟨bv,0,none⟩) s.X.length c,_,T.set (posX d s.X) (d,.slice xa y.length xc,s.last+1),rfl,?_,?_⟩,Step.append_comm (L1:=Lv20) (L2:=[_,_]) (Step.tail (Step.tail (Step.append_comm (L1:=[_,_]) (L2:=_::_::Lv20) (hs.front [_,_,_]))))⟩
   ·simp only[e,length_set]
    have hT':∀t∈T.set (posX d s.X) (d,Value.slice xa y.length xc,s.last+1),t.1.length=32:=fun t ht=>by
     rcases mem_or_eq_of_mem_set ht with h | rfl
     ·exact o.len t h
     ·exact hd
    refine⟨by rw[rowsT_len hT',length_set,hTl],.inr ⟨bv,c,more,rfl,rfl,?_⟩⟩
    rw[length_append,rowsT_len hT',length_set,←rowsT_len o.len,←length_append];exact hcl
   ·simp only[e]
    exact(o.view.mono fun p hp=>mem_append_right _ hp).set (hrb fun p hp=>mem_append_left _ hp) _
  ·cases h
 | none=>
  rw[hfx] at hpl
  have e:=ins_new (b:=b) ok.sorted (by rw[hbd];exact hfx)
  rw[hbd] at e
  refine sr<|wm<|wR ty44 rfl hdl hs.a0<|wE rfl (run_call en115 rfl rfl) (hpl (hlat (Step.dropR (L1:=_::Lv) (Step.tail (Step.tail hs))))) ?_
  rintro e w ⟨rfl,hq⟩
  refine⟨_,rfl,?_⟩
  replace hs:=hs.callE hq
  refine wm<|wx rfl rfl<|wx rfl rfl<|wA<|wA<|wZ<|cq<|sr<|wm<|wZ<|CW.cond rfl (fun h=>?_) (fun h=>?_)
  ·cases h
  refine ck<|sr<|wA<|wZ ?_
  have hca:Cells1 (rowsT ((T.take (posX d s.X)).drop 0)):=rowsT_cells1 fun t ht=>o.view.one t (mem_of_mem_take (mem_of_mem_drop ht))
  have hcb:Cells1 (rowsT ((T.take s.X.length).drop (posX d s.X))):=rowsT_cells1 fun t ht=>o.view.one t (mem_of_mem_take (mem_of_mem_drop ht))
  refine sr<|wm<|wm<|wn rfl<|wF 3 u54 rfl ty52 rfl<|wl ty52 rfl ((Step.tail (Step.tail hs)).c0 (v:=.slice a s.X.length c) rfl)<|wm<|wV (run_cut (lo:=0) (hi:=posX d s.X) (hlat (Step.dropR (L1:=_::Lv) (Step.tail (Step.tail hs)))) rfl rfl rfl (Nat.zero_le _) hple)<|WL.append u52 u52 ty80 rfl (by decide) rfl rfl (OwnSl.nil _ _) (hs) (cut_sl (hlat (Step.dropR (L1:=_::Lv) (Step.tail (Step.tail hs)))) (Nat.zero_le _) hple) (hca) (by omega) rfl (fun v47 Lv47 w hv47 hs=>?_)
  refine wA<|wZ ?_
  have ob:=hv47.form
  obtain⟨va,vc,rfl⟩:=ob
  have hx:(rbC (d,Value.slice xa y.length xc,s.last+1)).length=34:=rbC_len hd
  refine sr<|wm<|wR ty80 rfl hx (Step.dropL (L1:=Lv47) hs).a1<|WL.buildSlice (cs:=rbC (d,Value.slice xa y.length xc,s.last+1)) u52 ty80 rfl (by decide) rfl (filled1 hx rfl) rfl hs (fun b50 w hs=>?_)
  have hsl:Sl w 34 (.slice (some ⟨b50,0,none⟩) 1 1) 1 (rbC (d,Value.slice xa y.length xc,s.last+1)):=.own1 hs (by rw[hx])
  refine WL.append u52 u52 ty80 rfl (by decide) rfl rfl (hv47) (hs.perm perm_middle.symm) (hsl) (rbC_cells1 rfl) (by omega) rfl (fun v51 Lv51 w hv51 hs=>?_)
  refine wA<|wZ ?_
  have ob:=hv51.form
  obtain⟨ua,uc,rfl⟩:=ob
  have ho3:ROpen br ⟨s.k,s.cap,s.last+1,s.gets,s.puts,s.X⟩ D _ w a c Lv T:=hlat (Step.dropR (L1:=_::Lv) (Step.tail (Step.tail (Step.tail (Step.dropL (L1:=Lv51) hs)))))
  refine cr<|wm<|wm<|wm<|wn rfl<|wF 3 u54 rfl ty52 rfl<|wl ty52 rfl ((Step.tail (Step.tail (Step.tail (Step.dropL (L1:=Lv51) hs)))).c0 (v:=.slice a s.X.length c) rfl)<|wm<|wV (run_cut (lo:=posX d s.X) (hi:=s.X.length) ho3 rfl rfl rfl hple (Nat.le_refl _))<|WL.append u52 u52 ty80 rfl (by decide) rfl rfl (hv51) (hs) (cut_sl ho3 hple (Nat.le_refl _)) (hcb) (by omega) rfl (fun v60 Lv60 w hv60 hs=>?_)
  replace hs:=Step.front [_,_,_] (Step.append_comm (L1:=Lv60) hs)
  refine wn rfl<|wF 3 u54 rfl ty52 rfl<|ws1 ty52 rfl rfl (hv60.one) (hs) (fun w hs=>?_)
  refine wZ<|fin_end0 rfl ?_
  have hcnt:0+(posX d s.X - 0)+1+(s.X.length - posX d s.X)=(insX b s.X).length:=by
   rw[e,length_append,length_cons,length_take,length_drop,Nat.min_eq_left hple];omega
  have hrows:[]++rowsT ((T.take (posX d s.X)).drop 0)++rbC (d,Value.slice xa y.length xc,s.last+1)++rowsT ((T.take s.X.length).drop (posX d s.X))=rowsT (T.take (posX d s.X)++(d,Value.slice xa y.length xc,s.last+1)::T.drop (posX d s.X)):=by
   rw[drop_zero,←hTl,take_length,nil_append];simp[rowsT]
  rw[hcnt,hrows] at hv60
  have hs2:Step S ((br,blk 54 (rsC s.k s.cap (s.last+1) v60 s.gets s.puts))::_::_::_::((Lv++Lv20)++Lv60)) w0 w:=hs
  have hs3:=Step.tail (Step.tail (Step.tail (Step.append_comm (L1:=[_]) (L2:=_::_::_::((Lv++Lv20)++Lv60)) hs2)))
  have hs4:=Step.dropL (L1:=Lv) (Step.perm hs3 (List.Perm.of_eq ((append_assoc (Lv++Lv20) Lv60 [_]).trans (append_assoc Lv Lv20 (Lv60++[_])))))
  have hs5:=Step.perm (Step.append_comm (L1:=Lv20) hs4) ((perm_append_comm (l₁:=Lv60) (l₂:=[_])).append_right Lv20)
  refine⟨_,Lv20,rfl,⟨v60,Lv60,T.take (posX d s.X)++(d,Value.slice xa y.length xc,s.last+1)::T.drop (posX d s.X),rfl,hv60,?_⟩,hs5⟩
  simp only[e]
  have hvm:=o.view.mono (D':=Lv20++D) fun p hp=>mem_append_right _ hp
  exact(hvm.take _).append (.cons (hrb fun p hp=>mem_append_left _ hp) (hvm.drop _))
end
section
variable{br:Nat}{s:AS}{D R:OL}{w0:World}{d y:U8}{v:Value}{n:Nat}
theorem room_ins (h:SortedX s.X):usedX (delX d s.X)+(y.length+32)=usedX (insX ⟨d,y,s.last+1⟩ s.X):=by
 rw[usedX_perm (insX_perm ⟨d,y,s.last+1⟩ h),usedX_cons]
 simp only
 omega
theorem rplant_abs (hR:RRep br s D R) (ok:s.Ok) (hfew:s.Few n) (hn:n<1099511627776) (hw:Lives (R++D) w0) (hd:d.length=32) (hy:Sl w0 1 v y.length (u8s y)) (hO:OutE v y (R.map (·.1))) (hsy:y.length<1099511627776) :
  CP 62 #[pt br,.agg (u8s d).toArray,v] w0 fun e w'=>∃R' D',e=.returned (.int .i64 ((s.plant d y).1:Nat))∧RRep br (s.plant d y).2 (D'++D) R'∧Step (R.map (·.1)) (R'++D') w0 w':=by
 have ob:=hR.open ok hw
 obtain⟨a,c,Lv,T,o⟩:=ob
 have hs:Step (R.map (·.1)) ((br,blk 54 (rsC s.k s.cap s.last (.slice a s.X.length c) s.gets s.puts))::Lv) w0 w0:=by have h:=hw.left;rw[←o.eqR];exact h
 have hdl:(u8s d).length=32:=by rw[u8s,length_map,hd]
 have hP:=RRep.head o s.k s.cap s.last s.gets s.puts
 have hfit:=fun w=>refFits_spec (d:=d) (k:=(s.k:Nat)) hd w
 have ob:=Sl.form hy
 obtain⟨av,cv,rfl⟩:=ob
 have hroom:=fun {w a c Lv T R} (h:ROpen br s D R w a c Lv T)=>room_spec (d:=d) (n:=y.length) h ok hd hsy
 simp only[room_ins (y:=y) ok.sorted] at hroom
 have hlat:∀{w:World},Step (R.map (·.1)) ((br,blk 54 (rsC s.k s.cap s.last (.slice a s.X.length c) s.gets s.puts))::Lv) w0 w→ROpen br s D ((br,blk 54 (rsC s.k s.cap s.last (.slice a s.X.length c) s.gets s.puts))::Lv) w a c Lv T:=fun h=>o.later s.k s.cap s.last s.gets s.puts h
 have hlay:=fun {w} (h:Lives (((br,blk 54 (rsC s.k s.cap s.last (.slice a s.X.length c) s.gets s.puts))::Lv)++D) w) (h2:Sl w 1 (.slice av y.length cv) y.length (u8s y))=>rlay_abs (d:=d) hP ok hfew hn h hd h2 (by have h3:=hO;rw[o.eqR] at h3;exact h3) hsy
 have hkept:∀{w:World},Step (R.map (·.1)) ((br,blk 54 (rsC s.k s.cap s.last (.slice a s.X.length c) s.gets s.puts))::Lv) w0 w→Lives (((br,blk 54 (rsC s.k s.cap s.last (.slice a s.X.length c) s.gets s.puts))::Lv)++D) w:=fun h=>Lives.kept hw h
 unfold AS.plant
 by_cases hf:fitsL d s.k=false
 ·rw[if_pos hf]
  simp only[hf] at hfit
  refine calls (n:=27) Tryz.func62 rfl rfl rfl ?_
  refine sr<|WL.box (cs:=u8s d) rfl rfl rfl hs (fun b4 w hs=>?_)
  refine wA<|wZ<|cq<|cq<|CW.quiet mixedP (by kernel_rfl) hs ?_
  refine qV (fun w hs=>run_loadN ty44 rfl hdl hs.a0)<|qm<|qn rfl<|qF 0 u54 rfl ty3 rfl<|qL ty3 rfl (fun w hs=>hs.c1 (v:=.int .i64 (s.k:Nat)) rfl)<|QL.enter rfl (fun w=>run_call en112 rfl rfl) (fun w hs=>hfit _) ?_
  refine qV (fun w hs=>run_not rfl)<|QL.nil (fun w hs=>?_)
  refine CW.cond rfl (fun h=>?_) (fun h=>?_)
  ·refine sr<|wA<|wZ<|CW.ret ?_
   refine fin_ret1 rfl ?_
   exact⟨_,[],rfl,hP,by rw[append_nil];exact hs.tail⟩
  ·cases h
 ·rw[if_neg hf]
  replace hf:fitsL d s.k=true:=by simpa using hf
  simp only[hf] at hfit
  by_cases hlong:1048576<y.length
  ·rw[if_pos hlong]
   refine calls (n:=27) Tryz.func62 rfl rfl rfl ?_
   refine sr<|WL.box (cs:=u8s d) rfl rfl rfl hs (fun b4 w hs=>?_)
   refine wA<|wZ<|cq<|cq<|CW.quiet mixedP (by kernel_rfl) hs ?_
   refine qV (fun w hs=>run_loadN ty44 rfl hdl hs.a0)<|qm<|qn rfl<|qF 0 u54 rfl ty3 rfl<|qL ty3 rfl (fun w hs=>hs.c1 (v:=.int .i64 (s.k:Nat)) rfl)<|QL.enter rfl (fun w=>run_call en112 rfl rfl) (fun w hs=>hfit _) ?_
   refine qV (fun w hs=>run_not rfl)<|QL.nil (fun w hs=>?_)
   refine CW.cond rfl (fun h=>?_) (fun h=>?_)
   ·cases h
   refine ck<|cq<|sr<|wm<|wL u76 rfl<|xT<|wZ<|CW.cond rfl (fun h=>?_) (fun h=>?_)
   ·refine sr<|wA<|wZ<|CW.ret ?_
    refine fin_ret1 rfl ?_
    exact⟨_,[],rfl,hP,by rw[append_nil];exact hs.tail⟩
   ·cases h
  ·rw[if_neg hlong]
   unfold AS.lay
   by_cases hc:usedX (insX ⟨d,y,s.last+1⟩ s.X)≤s.cap
   ·simp only[decide_eq_true hc] at hroom
    rw[if_pos hc]
    simp only
    refine calls (n:=27) Tryz.func62 rfl rfl rfl ?_
    refine sr<|WL.box (cs:=u8s d) rfl rfl rfl hs (fun b4 w hs=>?_)
    refine wA<|wZ<|cq<|cq<|CW.quiet mixedP (by kernel_rfl) hs ?_
    refine qV (fun w hs=>run_loadN ty44 rfl hdl hs.a0)<|qm<|qn rfl<|qF 0 u54 rfl ty3 rfl<|qL ty3 rfl (fun w hs=>hs.c1 (v:=.int .i64 (s.k:Nat)) rfl)<|QL.enter rfl (fun w=>run_call en112 rfl rfl) (fun w hs=>hfit _) ?_
    refine qV (fun w hs=>run_not rfl)<|QL.nil (fun w hs=>?_)
    refine CW.cond rfl (fun h=>?_) (fun h=>?_)
    ·cases h
    refine ck<|cq<|sr<|wm<|wL u76 rfl<|xF<|wZ<|CW.cond rfl (fun h=>?_) (fun h=>?_)
    ·cases h
    refine ck<|cq<|sr<|wm<|wR ty44 rfl hdl hs.a0<|wm<|wL u76 rfl<|wE rfl (run_call en113 rfl rfl) (hroom (hlat hs.tail)) ?_
    rintro e w ⟨rfl,hq⟩
    refine⟨_,rfl,?_⟩
    replace hs:=hs.callE hq
    refine wN rfl<|wZ<|CW.cond rfl (fun h=>?_) (fun h=>?_)
    ·cases h
    refine ck<|sr<|wm<|wR ty44 rfl hdl hs.a0<|wm<|wE rfl (run_call en114 rfl rfl) (hlay (hkept hs.tail) (hy.stepE hs.tail hO)) ?_
    rintro e w ⟨R',D',rfl,hP',hq⟩
    refine⟨_,rfl,?_⟩
    replace hs:=Step.call (L1:=_::Lv) (L:=[_]) (Step.append_comm (L1:=[_]) hs) hq
    refine wZ<|sr<|wA<|wZ<|CW.ret ?_
    refine fin_ret1 rfl ?_
    exact⟨R',D',rfl,hP',hs.dropR⟩
   ·simp only[decide_eq_false hc] at hroom
    rw[if_neg hc]
    simp only
    refine calls (n:=27) Tryz.func62 rfl rfl rfl ?_
    refine sr<|WL.box (cs:=u8s d) rfl rfl rfl hs (fun b4 w hs=>?_)
    refine wA<|wZ<|cq<|cq<|CW.quiet mixedP (by kernel_rfl) hs ?_
    refine qV (fun w hs=>run_loadN ty44 rfl hdl hs.a0)<|qm<|qn rfl<|qF 0 u54 rfl ty3 rfl<|qL ty3 rfl (fun w hs=>hs.c1 (v:=.int .i64 (s.k:Nat)) rfl)<|QL.enter rfl (fun w=>run_call en112 rfl rfl) (fun w hs=>hfit _) ?_
    refine qV (fun w hs=>run_not rfl)<|QL.nil (fun w hs=>?_)
    refine CW.cond rfl (fun h=>?_) (fun h=>?_)
    ·cases h
    refine ck<|cq<|sr<|wm<|wL u76 rfl<|xF<|wZ<|CW.cond rfl (fun h=>?_) (fun h=>?_)
    ·cases h
    refine ck<|cq<|sr<|wm<|wR ty44 rfl hdl hs.a0<|wm<|wL u76 rfl<|wE rfl (run_call en113 rfl rfl) (hroom (hlat hs.tail)) ?_
    rintro e w ⟨rfl,hq⟩
    refine⟨_,rfl,?_⟩
    replace hs:=hs.callE hq
    refine wN rfl<|wZ<|CW.cond rfl (fun h=>?_) (fun h=>?_)
    ·refine sr<|wA<|wZ<|CW.ret ?_
     refine fin_ret1 rfl ?_
     exact⟨_,[],rfl,hP,by rw[append_nil];exact hs.tail⟩
    ·cases h
end
section
variable{br:Nat}{s:AS}{D R:OL}{w0:World}{d y:U8}{v:Value}{n:Nat}
set_option maxHeartbeats 2000000 in
theorem rput_abs (hR:RRep br s D R) (ok:s.Ok) (hfew:s.Few n) (hn:n<1099511627775) (hw:Lives (R++D) w0) (hy:Sl w0 1 v y.length (u8s y)) (hO:OutE v y (R.map (·.1))) (hsy:y.length<1099511627776) :
  CP 74 #[pt br,v] w0 fun e w'=>∃R' D',e=.returned (.tuple #[.agg (u8s (s.put y).1).toArray,.int .i64 ((s.put y).2.1:Nat)])∧RRep br (s.put y).2.2 (D'++D) R'∧Step (R.map (·.1)) (R'++D') w0 w':=by
 have ob:=hR.open ok hw
 obtain⟨a,c,Lv,T,o⟩:=ob
 have hs:Step (R.map (·.1)) ((br,blk 54 (rsC s.k s.cap s.last (.slice a s.X.length c) s.gets s.puts))::Lv) w0 w0:=by have h:=hw.left;rw[←o.eqR];exact h
 have hpu:=hfew.puts
 have hk1:=ok.k1
 have huse:=ok.used
 have ob:∃s1,s1=AS.mk s.k s.cap s.last s.gets (s.puts+1) s.X:=⟨_,rfl⟩
 obtain⟨s1,hs1⟩:=ob
 have ok1:s1.Ok:=by rw[hs1];exact⟨ok.k1,ok.k2,ok.cap,ok.sorted,ok.len,ok.used⟩
 have few1:s1.Few (n+1):=by rw[hs1];exact⟨Nat.le_succ_of_le hfew.last,Nat.le_succ_of_le hfew.gets,Nat.succ_le_succ hfew.puts⟩
 have hP:RRep br s1 D ((br,blk 54 (rsC s.k s.cap s.last (.slice a s.X.length c) s.gets (s.puts+1)))::Lv):=by rw[hs1];exact RRep.head o s.k s.cap s.last s.gets (s.puts+1)
 have ob:∃x,frontL y s.k=x:=⟨_,rfl⟩
 obtain⟨dg,hdg⟩:=ob
 have hd:dg.length=32:=by rw[←hdg];exact frontL_len ok.k2
 have hdl:(u8s dg).length=32:=by rw[u8s,length_map,hd]
 have hof:=fun {w} (h:Sl w 1 v y.length (u8s y))=>ofR_spec (k:=s.k) w h hsy ok.k1 ok.k2
 rw[hdg] at hof
 have hlat:∀{w:World},Step (R.map (·.1)) ((br,blk 54 (rsC s.k s.cap s.last (.slice a s.X.length c) s.gets (s.puts+1)))::Lv) w0 w→ROpen br s1 D ((br,blk 54 (rsC s.k s.cap s.last (.slice a s.X.length c) s.gets (s.puts+1)))::Lv) w a c Lv T:=fun h=>by rw[hs1];exact o.later s.k s.cap s.last s.gets (s.puts+1) h
 have hroom:=fun {w a c Lv T R} (h:ROpen br s1 D R w a c Lv T)=>room_spec (d:=dg) (n:=y.length) h ok1 hd hsy
 simp only[room_ins (y:=y) ok1.sorted] at hroom
 have hpl:=fun {w a c Lv T R} (h:ROpen br s1 D R w a c Lv T)=>place_spec (d:=dg) h ok1 hd
 have hlay:=fun {w} (h:Lives (((br,blk 54 (rsC s.k s.cap s.last (.slice a s.X.length c) s.gets (s.puts+1)))::Lv)++D) w) (h2:Sl w 1 v y.length (u8s y))=>rlay_abs (d:=dg) hP ok1 few1 (by omega) h hd h2 (by have h3:=hO;rw[o.eqR] at h3;exact h3) hsy
 have hkept:∀{w:World},Step (R.map (·.1)) ((br,blk 54 (rsC s.k s.cap s.last (.slice a s.X.length c) s.gets (s.puts+1)))::Lv) w0 w→Lives (((br,blk 54 (rsC s.k s.cap s.last (.slice a s.X.length c) s.gets (s.puts+1)))::Lv)++D) w:=fun h=>Lives.kept hw h
 have ob:=Sl.form hy
 obtain⟨av,cv,rfl⟩:=ob
 have ob:∃pr,s.put y=pr:=⟨_,rfl⟩
 obtain⟨pr,hpr⟩:=ob
 rw[hpr]
 have hfin:∀{d':U8}{e':Nat}{s':AS}{R' D':OL}{w:World},(d',e',s')=pr→RRep br s' (D'++D) R'→Step (R.map (·.1)) (R'++D') w0 w→∃R' D',Ending.returned (.tuple #[.agg (u8s d').toArray,.int .i64 (e':Nat)])=.returned (.tuple #[.agg (u8s pr.1).toArray,.int .i64 (pr.2.1:Nat)])∧RRep br pr.2.2 (D'++D) R'∧Step (R.map (·.1)) (R'++D') w0 w:=by
  rintro d' e' s' R' D' w rfl h1 h2
  exact⟨R',D',rfl,h1,h2⟩
 unfold AS.put at hpr
 rw[hdg] at hpr
 simp only at hpr
 rw[←hs1] at hpr
 refine calls (n:=79) Tryz.func74 rfl rfl rfl ?_
 refine sr<|WL.alloc ty44 rfl hs (fun b4 w hs=>?_)
 refine wA<|wZ<|sr<|wm<|wn rfl<|wF 4 u54 rfl ty50 rfl<|wF 1 u50 rfl ty3 rfl<|wl ty3 rfl (hs.c1 (v:=.int .i64 (s.puts:Nat)) rfl)<|wP ((s.puts+1:Nat):Int)<|wn rfl<|wF 4 u54 rfl ty50 rfl<|wF 1 u50 rfl ty3 rfl<|WL.store1_1 ty3 rfl rfl (rfl) hs (by first | (simp;done) | omega | (simp only[length_append,length_replicate,length_cons,length_nil,length_set];omega) | (simp[Ent.cells,u8s];done) | exact Nat.le_of_ble_eq_true rfl) (fun w hs=>?_)
 refine wZ ?_
 replace hs:Step (R.map (·.1)) ((b4,blk 44 (u8s zD))::(br,blk 54 (rsC s.k s.cap s.last (.slice a s.X.length c) s.gets (s.puts+1)))::Lv) w0 w:=hs
 by_cases hlong:1048576<y.length
 ·rw[if_pos hlong] at hpr
  refine cq<|sr<|wm<|wL u76 rfl<|xT<|wZ<|CW.cond rfl (fun h=>?_) (fun h=>?_)
  ·refine sr<|wV (run_build rfl ((bld_dig _)))<|WL.storeAll ty44 rfl rfl ((by rfl)) (Cells1.u8s _) hs (by rfl) (fun w hs=>?_)
   refine wA<|wZ<|CW.ret ?_
   refine fin_cellTmp rfl rfl (run_loadVarN ty44 (by rfl) hs.a0) ?_
   exact hfin (D':=[]) hpr hP (by rw[append_nil];exact Step.tail hs)
  ·cases h
 rw[if_neg hlong] at hpr
 unfold AS.has at hpl
 have hX1:s1.X=s.X:=by rw[hs1]
 have hl1:s1.last=s.last:=by rw[hs1]
 have hc1:s1.cap=s.cap:=by rw[hs1]
 rw[hX1] at hpl
 rw[hX1,hl1,hc1] at hroom
 have hlayE:s1.lay dg y=if usedX (insX ⟨dg,y,s.last+1⟩ s.X)≤s.cap then some { s1 with last:=s1.last+1,X:=insX ⟨dg,y,s1.last+1⟩ s1.X } else none:=by
  rw[hX1,hl1,hs1];rfl
 rw[hlayE] at hpr
 refine cq<|sr<|wm<|wL u76 rfl<|xF<|wZ<|CW.cond rfl (fun h=>?_) (fun h=>?_)
 ·cases h
 refine ck<|sr<|wm<|wn rfl<|wF 0 u54 rfl ty3 rfl<|wl ty3 rfl (hs.c1 (v:=.int .i64 (s.k:Nat)) rfl)<|wm<|wE rfl (run_call en61 rfl rfl) (hof (hy.stepE hs.tail hO)) ?_
 rintro e w ⟨rfl,hq⟩
 refine⟨_,rfl,?_⟩
 replace hs:=hs.callE hq
 refine WL.alloc ty44 rfl hs (fun b6 w hs=>?_)
 refine WL.storeAll ty44 rfl rfl ((hdl)) (Cells1.u8s _) hs (by rfl) (fun w hs=>?_)
 refine wZ ?_
 cases hf:findX dg s.X with
 | none=>
  rw[hf] at hpl hpr
  simp only at hpr
  refine sr<|wm<|wR ty44 rfl hdl hs.a0<|wE rfl (run_call en115 rfl rfl) (hpl (hlat hs.tail.tail)) ?_
  rintro e w ⟨rfl,hq⟩
  refine⟨_,rfl,?_⟩
  replace hs:=hs.callE hq
  refine wm<|wx rfl rfl<|wx rfl rfl<|wA<|wA<|wZ<|cq<|sr<|wm<|wm<|wz<|wz<|wz<|wz<|wz<|wz<|wz<|wz<|wz<|wz<|pF<|wZ ?_
  refine CW.cond rfl (fun h=>?_) (fun h=>?_)
  ·cases h
  refine ck<|cq<|cq<|CW.quiet mixedP (by kernel_rfl) hs ?_
  refine qm<|qm<|qz<|qz<|qz<|qz<|qz<|qz<|qz<|qz<|qz<|qz<|qz<|qz ?_
  refine qz<|qz<|qz<|qP<|QL.nil (fun w hs=>?_)
  refine CW.cond rfl (fun h=>?_) (fun h=>?_)
  ·cases h
  by_cases hc:usedX (insX ⟨dg,y,s.last+1⟩ s.X)≤s.cap
  ·simp only[decide_eq_true hc] at hroom
   rw[if_pos hc] at hpr
   refine ck<|cq<|sr<|wm<|wR ty44 rfl hdl hs.a0<|wm<|wL u76 rfl<|wE rfl (run_call en113 rfl rfl) (hroom (hlat hs.tail.tail)) ?_
   rintro e w ⟨rfl,hq⟩
   refine⟨_,rfl,?_⟩
   replace hs:=hs.callE hq
   refine wN rfl<|wZ<|CW.cond rfl (fun h=>?_) (fun h=>?_)
   ·cases h
   refine ck<|sr<|wm<|wR ty44 rfl hdl hs.a0<|wm<|wE rfl (run_call en114 rfl rfl) (hlay (hkept hs.tail.tail) (hy.stepE hs.tail.tail hO)) ?_
   rintro e w ⟨R',D',rfl,hP',hq⟩
   refine⟨_,rfl,?_⟩
   replace hs:=Step.append_comm (L2:=[_,_]) (Step.call (L1:=_::Lv) (L:=[_,_]) (Step.append_comm (L1:=[_,_]) hs) hq)
   refine wZ<|sr<|wR ty44 rfl hdl hs.a0<|WL.storeAll ty44 rfl rfl (hdl) (Cells1.u8s _) (hs.swap) rfl (fun w hs=>?_)
   refine wA<|wZ<|CW.ret ?_
   refine fin_cellTmp rfl rfl (run_loadVarN ty44 (by assumption) hs.a0) ?_
   exact hfin hpr hP' (Step.tail (Step.tail hs))
  ·simp only[decide_eq_false hc] at hroom
   rw[if_neg hc] at hpr
   refine ck<|cq<|sr<|wm<|wR ty44 rfl hdl hs.a0<|wm<|wL u76 rfl<|wE rfl (run_call en113 rfl rfl) (hroom (hlat hs.tail.tail)) ?_
   rintro e w ⟨rfl,hq⟩
   refine⟨_,rfl,?_⟩
   replace hs:=hs.callE hq
   refine wN rfl<|wZ<|CW.cond rfl (fun h=>?_) (fun h=>?_)
   ·refine sr<|wV (run_build rfl ((bld_dig _)))<|WL.storeAll ty44 rfl rfl ((by rfl)) (Cells1.u8s _) (hs.swap) rfl (fun w hs=>?_)
    refine wA<|wZ<|CW.ret ?_
    refine fin_cellTmp rfl rfl (run_loadVarN ty44 (by rfl) hs.a0) ?_
    exact hfin (D':=[]) hpr hP (by rw[append_nil];exact Step.tail (Step.tail hs))
   ·cases h
 | some b=>
  rw[hf] at hpl hpr
  simp only at hpr
  have ob:=pos_some ok.sorted hf
  obtain⟨hb,hbd⟩:=ob
  have hlt:=(List.getElem?_eq_some_iff.1 hb).1
  have hbl:=ok.len b (mem_of_getElem? hb)
  have hbu:=used_mem (mem_of_getElem? hb)
  have ob:=o.view.at hb
  obtain⟨⟨td,tv,ts⟩,ht,h1,h2,hheld⟩:=ob
  simp only at h1 h2 hheld
  subst h1 h2
  have ob:=o.row hb
  obtain⟨bv,_,hae,_,_⟩:=ob
  subst hae
  have ob:=hheld.form
  obtain⟨va,vc,rfl⟩:=ob
  have hfl:(frontL b.x s.k).length=32:=frontL_len ok.k2
  have hcell:∀{w:World},Step (R.map (·.1)) ((br,blk 54 (rsC s.k s.cap s.last (.slice (some ⟨bv,0,none⟩) s.X.length c) s.gets (s.puts+1)))::Lv) w0 w→w.cell? ⟨bv,0+posX dg s.X*34+32,none⟩=some (.slice va b.x.length vc):=fun {w} h=>by
   have o2:=hlat h
   rcases o2.rows with h5 | ⟨bv2,h5,h6⟩
   ·rw[hX1] at h5;rw[h5] at hb;simp at hb
   ·obtain rfl:bv=bv2:=by injection h5 with he;injection he
    exact(h6.rowT o2.len ht).cell (rbC_32 hbl)
  have hsl:∀{w:World},Step (R.map (·.1)) ((br,blk 54 (rsC s.k s.cap s.last (.slice (some ⟨bv,0,none⟩) s.X.length c) s.gets (s.puts+1)))::Lv) w0 w→Sl w 1 (.slice va b.x.length vc) b.x.length (u8s b.x):=fun {w} h=>hheld.sl (hlat h).dat
  refine sr<|wm<|wR ty44 rfl hdl hs.a0<|wE rfl (run_call en115 rfl rfl) (hpl (hlat hs.tail.tail)) ?_
  rintro e w ⟨rfl,hq⟩
  refine⟨_,rfl,?_⟩
  replace hs:=hs.callE hq
  refine wm<|wx rfl rfl<|wx rfl rfl<|wA<|wA<|wZ ?_
  by_cases hxy:b.x=y
  ·rw[if_pos hxy] at hpr
   refine cq<|sr<|wm<|wm<|wy<|wm<|wy<|wn rfl<|wy<|wF 3 u54 rfl ty52 rfl<|wy<|wl ty52 rfl ((Step.tail hs.tail).c0 (v:=.slice (some ⟨bv,0,none⟩) s.X.length c) rfl)<|wy<|wm ?_
   refine wy ?_;(first | refine WL.val rfl (run_ixSlN u52 ty80 rfl rfl (by omega)) ?_ | refine WL.val rfl (run_ixSl u52 ty80 rfl rfl (by omega)) ?_)
   refine wy<|wF 32 u80 rfl ty76 rfl<|wy<|wl ty76 rfl (hcell hs.tail.tail)<|wy<|wm<|wy<|wE rfl (run_call en121 rfl rfl) (sameR_spec _ (hsl hs.tail.tail) (hy.stepE hs.tail.tail hO)) ?_
   rintro e w ⟨rfl,hq⟩
   refine⟨_,rfl,?_⟩
   replace hs:=hs.callE hq
   refine pT<|wZ<|CW.condP rfl (fun h=>?_) (fun h=>?_)
   ·refine sr<|wR ty44 rfl hdl hs.a0<|WL.storeAll ty44 rfl rfl (hdl) (Cells1.u8s _) (hs.swap) rfl (fun w hs=>?_)
    refine wA<|wZ<|CW.ret ?_
    refine fin_cellTmp rfl rfl (run_loadVarN ty44 (by assumption) hs.a0) ?_
    exact hfin (D':=[]) hpr hP (by rw[append_nil];exact Step.tail (Step.tail hs))
   ·exact absurd hxy h
  rw[if_neg hxy] at hpr
  refine cq<|sr<|wm<|wm<|wy<|wm<|wy<|wn rfl<|wy<|wF 3 u54 rfl ty52 rfl<|wy<|wl ty52 rfl ((Step.tail hs.tail).c0 (v:=.slice (some ⟨bv,0,none⟩) s.X.length c) rfl)<|wy<|wm ?_
  refine wy ?_;(first | refine WL.val rfl (run_ixSlN u52 ty80 rfl rfl (by omega)) ?_ | refine WL.val rfl (run_ixSl u52 ty80 rfl rfl (by omega)) ?_)
  refine wy<|wF 32 u80 rfl ty76 rfl<|wy<|wl ty76 rfl (hcell hs.tail.tail)<|wy<|wm<|wy<|wE rfl (run_call en121 rfl rfl) (sameR_spec _ (hsl hs.tail.tail) (hy.stepE hs.tail.tail hO)) ?_
  rintro e w ⟨rfl,hq⟩
  refine⟨_,rfl,?_⟩
  replace hs:=hs.callE hq
  refine pT<|wZ<|CW.condP rfl (fun h=>?_) (fun h=>?_)
  ·exact absurd h hxy
  refine ck<|cq<|cq<|CW.quiet mixedP (by kernel_rfl) hs ?_
  refine qm<|qm<|qy<|qm<|qy<|qn rfl<|qy<|qF 0 u54 rfl ty3 rfl<|qy<|qL ty3 rfl (fun w hs=>(Step.tail hs.tail).c0 (v:=.int .i64 (s.k:Nat)) rfl)<|qy<|qm<|qy<|qn rfl ?_
  refine qy<|qF 3 u54 rfl ty52 rfl<|qy<|qL ty52 rfl (fun w hs=>(Step.tail hs.tail).c0 (v:=.slice (some ⟨bv,0,none⟩) s.X.length c) rfl)<|qy<|qm ?_
  refine qy ?_;(first | refine QL.val rfl (fun w hs=>run_ixSlN u52 ty80 rfl rfl (by omega)) ?_ | refine QL.val rfl (fun w hs=>run_ixSl u52 ty80 rfl rfl (by omega)) ?_)
  refine qy<|qF 32 u80 rfl ty76 rfl<|qy<|qL ty76 rfl (fun w hs=>hcell hs.tail.tail)<|qy<|QL.enter rfl (fun w=>run_call en61 rfl rfl) (fun w hs=>ofR_spec (k:=s.k) _ (hsl hs.tail.tail) (by omega) ok.k1 ok.k2) ?_
  refine qy<|qV (fun w hs=>run_loadN ty44 rfl hdl hs.a0)<|qy<|qV (fun w hs=>run_eqDig hfl hd rfl rfl)<|qT<|QL.nil (fun w hs=>?_)
  refine CW.condP rfl (fun h=>?_) (fun h=>?_)
  ·rw[if_pos (show frontL b.x s.k=dg from h)] at hpr
   refine sr<|wV (run_build rfl ((bld_dig _)))<|WL.storeAll ty44 rfl rfl ((by rfl)) (Cells1.u8s _) (hs.swap) rfl (fun w hs=>?_)
   refine wA<|wZ<|CW.ret ?_
   refine fin_cellTmp rfl rfl (run_loadVarN ty44 (by rfl) hs.a0) ?_
   exact hfin (D':=[]) hpr hP (by rw[append_nil];exact Step.tail (Step.tail hs))
  ·rw[if_neg (show ¬frontL b.x s.k=dg from h)] at hpr
   by_cases hc:usedX (insX ⟨dg,y,s.last+1⟩ s.X)≤s.cap
   ·simp only[decide_eq_true hc] at hroom
    rw[if_pos hc] at hpr
    refine ck<|cq<|sr<|wm<|wR ty44 rfl hdl hs.a0<|wm<|wL u76 rfl<|wE rfl (run_call en113 rfl rfl) (hroom (hlat hs.tail.tail)) ?_
    rintro e w ⟨rfl,hq⟩
    refine⟨_,rfl,?_⟩
    replace hs:=hs.callE hq
    refine wN rfl<|wZ<|CW.cond rfl (fun h=>?_) (fun h=>?_)
    ·cases h
    refine ck<|sr<|wm<|wR ty44 rfl hdl hs.a0<|wm<|wE rfl (run_call en114 rfl rfl) (hlay (hkept hs.tail.tail) (hy.stepE hs.tail.tail hO)) ?_
    rintro e w ⟨R',D',rfl,hP',hq⟩
    refine⟨_,rfl,?_⟩
    replace hs:=Step.append_comm (L2:=[_,_]) (Step.call (L1:=_::Lv) (L:=[_,_]) (Step.append_comm (L1:=[_,_]) hs) hq)
    refine wZ<|sr<|wR ty44 rfl hdl hs.a0<|WL.storeAll ty44 rfl rfl (hdl) (Cells1.u8s _) (hs.swap) rfl (fun w hs=>?_)
    refine wA<|wZ<|CW.ret ?_
    refine fin_cellTmp rfl rfl (run_loadVarN ty44 (by assumption) hs.a0) ?_
    exact hfin hpr hP' (Step.tail (Step.tail hs))
   ·simp only[decide_eq_false hc] at hroom
    rw[if_neg hc] at hpr
    refine ck<|cq<|sr<|wm<|wR ty44 rfl hdl hs.a0<|wm<|wL u76 rfl<|wE rfl (run_call en113 rfl rfl) (hroom (hlat hs.tail.tail)) ?_
    rintro e w ⟨rfl,hq⟩
    refine⟨_,rfl,?_⟩
    replace hs:=hs.callE hq
    refine wN rfl<|wZ<|CW.cond rfl (fun h=>?_) (fun h=>?_)
    ·refine sr<|wV (run_build rfl ((bld_dig _)))<|WL.storeAll ty44 rfl rfl ((by rfl)) (Cells1.u8s _) (hs.swap) rfl (fun w hs=>?_)
     refine wA<|wZ<|CW.ret ?_
     refine fin_cellTmp rfl rfl (run_loadVarN ty44 (by rfl) hs.a0) ?_
     exact hfin (D':=[]) hpr hP (by rw[append_nil];exact Step.tail (Step.tail hs))
    ·cases h
end
section
variable{br:Nat}{s:AS}{D R:OL}{w0:World}{d y:U8}{v:Value}{n:Nat}
set_option maxHeartbeats 2000000 in
theorem revict_abs (hR:RRep br s D R) (ok:s.Ok) (hw:Lives (R++D) w0) (hd:d.length=32) :
  CP 63 #[pt br,.agg (u8s d).toArray] w0 fun e w'=>∃R',e=.returned (.bool (s.has d))∧RRep br (s.evict d) D R'∧Step (R.map (·.1)) R' w0 w':=by
 have ob:=hR.open ok hw
 obtain⟨a,c,Lv,T,o⟩:=ob
 have hs:Step (R.map (·.1)) ((br,blk 54 (rsC s.k s.cap s.last (.slice a s.X.length c) s.gets s.puts))::Lv) w0 w0:=by have h:=hw.left;rw[←o.eqR];exact h
 have hdl:(u8s d).length=32:=by rw[u8s,length_map,hd]
 have hXl:=used_len s.X
 have huse:=ok.used
 have hTl:=o.view.length
 have hP:=RRep.head o s.k s.cap s.last s.gets s.puts
 have ob:∃S,R.map (·.1)=S:=⟨_,rfl⟩
 obtain⟨S,hSe⟩:=ob
 have hlat:∀{w:World},Step S ((br,blk 54 (rsC s.k s.cap s.last (.slice a s.X.length c) s.gets s.puts))::Lv) w0 w→ROpen br s D ((br,blk 54 (rsC s.k s.cap s.last (.slice a s.X.length c) s.gets s.puts))::Lv) w a c Lv T:=fun h=>o.later s.k s.cap s.last s.gets s.puts (by rw[hSe];exact h)
 have hpl:=fun {w a c Lv T R} (h:ROpen br s D R w a c Lv T)=>place_spec (d:=d) h ok hd
 simp only[hSe] at hs⊢
 unfold AS.has at hpl⊢
 unfold AS.evict
 cases hf:findX d s.X with
 | none=>
  rw[hf] at hpl
  rw[delX_none hf]
  refine calls (n:=36) Tryz.func63 rfl rfl rfl ?_
  refine sr<|WL.box (cs:=u8s d) rfl rfl rfl hs (fun b3 w hs=>?_)
  refine wA<|wZ<|sr<|wm<|wR ty44 rfl hdl hs.a0<|wE rfl (run_call en115 rfl rfl) (hpl (hlat hs.tail)) ?_
  rintro e w ⟨rfl,hq⟩
  refine⟨_,rfl,?_⟩
  replace hs:=hs.callE hq
  refine wm<|wx rfl rfl<|wx rfl rfl<|wA<|wA<|wZ<|cq<|sr<|wm<|wZ<|CW.cond rfl (fun h=>?_) (fun h=>?_)
  ·cases h
  refine ck<|sr<|wm<|wA<|wZ<|CW.ret ?_
  refine fin_ret1 rfl ?_
  exact⟨_,rfl,hP,hs.tail⟩
 | some b=>
  rw[hf] at hpl
  have ob:=pos_some ok.sorted hf
  obtain⟨hb,hbd⟩:=ob
  have hlt:=(List.getElem?_eq_some_iff.1 hb).1
  have e:=del_pos (d:=d) ok.sorted (by rw[hf];rfl)
  have hca:Cells1 (rowsT ((T.take (posX d s.X)).drop 0)):=rowsT_cells1 fun t ht=>o.view.one t (mem_of_mem_take (mem_of_mem_drop ht))
  have hcb:Cells1 (rowsT ((T.take s.X.length).drop (posX d s.X+1))):=rowsT_cells1 fun t ht=>o.view.one t (mem_of_mem_take (mem_of_mem_drop ht))
  refine calls (n:=36) Tryz.func63 rfl rfl rfl ?_
  refine sr<|WL.box (cs:=u8s d) rfl rfl rfl hs (fun b3 w hs=>?_)
  refine wA<|wZ<|sr<|wm<|wR ty44 rfl hdl hs.a0<|wE rfl (run_call en115 rfl rfl) (hpl (hlat hs.tail)) ?_
  rintro e w ⟨rfl,hq⟩
  refine⟨_,rfl,?_⟩
  replace hs:=hs.callE hq
  refine wm<|wx rfl rfl<|wx rfl rfl<|wA<|wA<|wZ<|cq<|sr<|wm<|wZ<|CW.cond rfl (fun h=>?_) (fun h=>?_)
  ·refine sr<|wA<|wZ<|sr<|wm<|wm<|wn rfl<|wF 3 u54 rfl ty52 rfl<|wl ty52 rfl (hs.c1 (v:=.slice a s.X.length c) rfl)<|wm<|wV (run_cut (lo:=0) (hi:=posX d s.X) (hlat hs.tail) rfl rfl rfl (Nat.zero_le _) (by omega))<|WL.append u52 u52 ty80 rfl (by decide) rfl rfl (OwnSl.nil _ _) (hs) (cut_sl (hlat hs.tail) (Nat.zero_le _) (by omega)) (hca) (by omega) rfl (fun v22 Lv22 w hv22 hs=>?_)
   refine wA<|wZ ?_
   have ob:=hv22.form
   obtain⟨va,vc,rfl⟩:=ob
   have ho3:ROpen br s D _ w a c Lv T:=hlat (Step.tail (Step.dropL (L1:=Lv22) hs))
   refine cr<|wm<|wm<|wm<|wn rfl<|wF 3 u54 rfl ty52 rfl<|wl ty52 rfl ((Step.tail (Step.dropL (L1:=Lv22) hs)).c0 (v:=.slice a s.X.length c) rfl)<|wm<|wP ((posX d s.X+1:Nat):Int)<|wV (run_cut (lo:=posX d s.X+1) (hi:=s.X.length) ho3 rfl rfl rfl (by omega) (Nat.le_refl _))<|WL.append u52 u52 ty80 rfl (by decide) rfl rfl (hv22) (hs) (cut_sl ho3 (by omega) (Nat.le_refl _)) (hcb) (by omega) rfl (fun v32 Lv32 w hv32 hs=>?_)
   replace hs:=Step.front [_] (Step.append_comm (L1:=Lv32) hs)
   refine wn rfl<|wF 3 u54 rfl ty52 rfl<|ws1 ty52 rfl rfl (hv32.one) (hs) (fun w hs=>?_)
   refine wZ<|sr<|wm<|wA<|wZ<|CW.ret ?_
   refine fin_ret1 rfl ?_
   have hcnt:0+(posX d s.X - 0)+(s.X.length - (posX d s.X+1))=(delX d s.X).length:=by
    rw[e,length_append,length_take,length_drop,Nat.min_eq_left (by omega)];omega
   have hrows:[]++rowsT ((T.take (posX d s.X)).drop 0)++rowsT ((T.take s.X.length).drop (posX d s.X+1))=rowsT (T.take (posX d s.X)++T.drop (posX d s.X+1)):=by
    rw[drop_zero,←hTl,take_length,nil_append,rowsT_append]
   rw[hcnt,hrows] at hv32
   have hs2:Step S ((br,blk 54 (rsC s.k s.cap s.last v32 s.gets s.puts))::_::(Lv++Lv32)) w0 w:=hs
   have hs3:=Step.tail (Step.append_comm (L1:=[_]) (L2:=_::(Lv++Lv32)) hs2)
   have hs4:=Step.dropL (L1:=Lv) (Step.perm hs3 (List.Perm.of_eq (append_assoc Lv Lv32 [_])))
   refine⟨_,rfl,⟨v32,Lv32,T.take (posX d s.X)++T.drop (posX d s.X+1),rfl,hv32,?_⟩,Step.append_comm (L1:=Lv32) (L2:=[_]) hs4⟩
   simp only[e]
   exact(o.view.take _).append (o.view.drop _)
  ·cases h
end
end Go.Gx
namespace Go.Gx
open Go.Proofs List
structure Row where
 d:(List UInt8)
 v:Value
 hd:d.length=32
 hv:v.oneCell'=true
instance:Inhabited Row:=⟨⟨zD,.slice none 0 0,zD_len,rfl⟩⟩
def Row.enc (r:Row):List Value:=u8s r.d++[r.v]
def Row.cf (a b:Row):Int:=if ltD a.d b.d then -1 else 1
theorem Row.enc_len (r:Row):r.enc.length=33:=by simp[Row.enc,u8s,r.hd]
theorem Row.enc1 (r:Row):Cells1 r.enc:=by
 intro v hv
 rcases mem_append.1 hv with h | h
 ·exact Cells1.u8s r.d v h
 ·rw[mem_singleton.1 h];exact r.hv
def rowsR (R:List Row):List Value:=(R.map Row.enc).flatten
theorem rowsR_len (R:List Row):(rowsR R).length=R.length*33:=by
 induction R with
 | nil=>rfl
 | cons r R ih=>rw[rowsR,map_cons,flatten_cons,length_append,Row.enc_len,length_cons];rw[rowsR] at ih;omega
theorem rowsR_snoc (R:List Row) (r:Row):rowsR (R++[r])=rowsR R++r.enc:=by simp[rowsR]
theorem rowsR_at:∀(R:List Row) (i j:Nat) (h:i<R.length),j<33→(rowsR R)[i*33+j]?=(R[i].enc)[j]?
 | r::R,0,j,_,hj=>by
  rw[rowsR,map_cons,flatten_cons,Nat.zero_mul,Nat.zero_add,getElem?_append_left (by rw[Row.enc_len];exact hj)]
  rfl
 | r::R,i+1,j,h,hj=>by
  rw[rowsR,map_cons,flatten_cons,getElem?_append_right (by rw[Row.enc_len];omega),Row.enc_len,show(i+1)*33+j - 33=i*33+j by omega]
  exact rowsR_at R i j (by simpa using h) hj
theorem Row.cf_lt (a b:Row):ltOf Row.cf a b=ltD a.d b.d:=by
 unfold ltOf Row.cf
 cases ltD a.d b.d <;> rfl
theorem Row.swo:Sort.SWO (ltOf Row.cf) where
 irrefl x:=by rw[Row.cf_lt];exact ltD_irrefl _
 trans x y z h1 h2:=by rw[Row.cf_lt] at *;exact ltD_trans _ _ _ h1 h2
 ntrans x y z h1 h2:=by
  rw[Row.cf_lt] at *
  cases h:ltD x.d z.d with
  | false=>rfl
  | true=>
   cases h3:ltD y.d x.d with
   | true=>rw[ltD_trans _ _ _ h3 h] at h2;cases h2
   | false=>rw[ltD_tri _ _ h1 h3] at h;rw[h] at h2;cases h2
theorem cmpRow_spec (x y:Row) (w0:World):CP 80 #[.agg x.enc.toArray,.agg y.enc.toArray] w0 (Ret0 (.int .i64 (Row.cf x y)) w0):=by
 have hs:Step [] [] w0 w0:=Step.refl w0
 have hless:=fun w=>less_spec x.hd y.hd w
 have hx0:x.enc.take 32=u8s x.d:=by rw[Row.enc,take_append_of_le_length (by simp[u8s,x.hd]),take_of_length_le (by simp[u8s,x.hd])]
 have hy0:y.enc.take 32=u8s y.d:=by rw[Row.enc,take_append_of_le_length (by simp[u8s,y.hd]),take_of_length_le (by simp[u8s,y.hd])]
 have hxl:(u8s x.d).length=32:=by rw[u8s,length_map,x.hd]
 have hyl:(u8s y.d).length=32:=by rw[u8s,length_map,y.hd]
 unfold Row.cf
 cases hb:ltD x.d y.d
 ·simp only[hb] at hless
  refine calls (n:=10) Tryz.func80 rfl rfl rfl ?_
  refine sr<|WL.box (cs:=x.enc) rfl rfl rfl hs (fun b2 w hs=>?_)
  refine WL.box (cs:=y.enc) rfl rfl rfl hs (fun b3 w hs=>?_)
  refine wA<|wZ<|cq<|sr<|wF 0 u160 rfl ty44 rfl<|wR ty44 rfl hxl (by have h:=(hs.a1).take 32;rw[hx0] at h;exact h)<|wF 0 u160 rfl ty44 rfl<|wR ty44 rfl hyl (by have h:=(hs.a0).take 32;rw[hy0] at h;exact h)<|wE rfl (run_call en81 rfl rfl) (hless _) ?_
  rintro e w ⟨rfl,hq⟩
  refine⟨_,rfl,?_⟩
  replace hs:=hs.callE hq
  refine wZ<|CW.cond rfl (fun h=>?_) (fun h=>?_)
  ·cases h
  ·refine ck<|sr<|wA<|wZ<|CW.ret ?_
   refine fin_ret1 rfl ?_
   exact⟨rfl,hs.clear⟩
 ·simp only[hb] at hless
  refine calls (n:=10) Tryz.func80 rfl rfl rfl ?_
  refine sr<|WL.box (cs:=x.enc) rfl rfl rfl hs (fun b2 w hs=>?_)
  refine WL.box (cs:=y.enc) rfl rfl rfl hs (fun b3 w hs=>?_)
  refine wA<|wZ<|cq<|sr<|wF 0 u160 rfl ty44 rfl<|wR ty44 rfl hxl (by have h:=(hs.a1).take 32;rw[hx0] at h;exact h)<|wF 0 u160 rfl ty44 rfl<|wR ty44 rfl hyl (by have h:=(hs.a0).take 32;rw[hy0] at h;exact h)<|wE rfl (run_call en81 rfl rfl) (hless _) ?_
  rintro e w ⟨rfl,hq⟩
  refine⟨_,rfl,?_⟩
  replace hs:=hs.callE hq
  refine wZ<|CW.cond rfl (fun h=>?_) (fun h=>?_)
  ·refine sr<|wA<|wZ<|CW.ret ?_
   refine fin_ret1 rfl ?_
   exact⟨rfl,hs.clear⟩
  ·cases h
theorem Step.grown{L:OL}{w w':World} (h:Step [] L w w'):∃q os,w'=Go.Sort.grow (w.drewN q) os:=by
 refine⟨w'.drawn - w.drawn,w'.heap.extract w.heap.size w'.heap.size,?_⟩
 have hc:=h.chg
 have h1:w'.heap=w.heap++w'.heap.extract w.heap.size w'.heap.size:=by
  apply Array.ext_getElem?
  intro i
  rw[Array.getElem?_append]
  by_cases hi:i<w.heap.size
  ·rw[if_pos hi,hc.block i hi (by simp)]
  ·rw[if_neg hi,Array.getElem?_extract]
   have hle:=hc.size
   by_cases h2:i<w'.heap.size
   ·rw[if_pos (by omega),show w.heap.size+(i - w.heap.size)=i by omega]
   ·rw[if_neg (by omega),Array.getElem?_eq_none (by omega)]
 have h2:w'.drawn=w.drawn+(w'.drawn - w.drawn):=by have:w.drawn≤w'.drawn:=hc.drawn;omega
 obtain⟨hh,t,dr,o,out⟩:=w'
 obtain⟨hh2,t2,dr2,o2,out2⟩:=w
 obtain rfl:=hc.os
 obtain rfl:=hc.tape
 obtain rfl:=hc.output
 simp only[Go.Sort.grow,World.drewN]
 simp only at h1 h2
 rw[World.mk.injEq]
 exact⟨h1,rfl,h2,rfl,rfl⟩
theorem cmpLays (blk off size:Nat) (w:World):CmpLays Tryz.prog 80 #[] Row.enc 33 Row.cf blk off size w:=
 fun m os dk hs x y=>(cmpRow_spec x y _).mono fun e w' ⟨h1,h2⟩=>⟨h1,h2.grown⟩
theorem flatK_rows (R:List Row):Go.Sort.flatK Row.enc 33 R.toArray=(rowsR R).toArray:=by
 apply Array.ext_getElem?
 intro t
 by_cases ht:t<R.length*33
 ·have hi:t / 33<R.length:=by omega
  have hj:t % 33<33:=Nat.mod_lt _ (by decide)
  have h:=rowsR_at R (t / 33) (t % 33) hi hj
  rw[show t / 33*33+t % 33=t by omega] at h
  have hr:(rowsR R).toArray[t]?=R[t / 33].enc[t % 33]?:=by rw[←h];simp
  rw[hr]
  have h1:t<(Go.Sort.flatK Row.enc 33 R.toArray).size:=by simpa using ht
  rw[Array.getElem?_eq_getElem h1,←getElem!_pos (Go.Sort.flatK Row.enc 33 R.toArray) t h1,Go.Sort.get_flatK _ _ _ _ (by simpa using ht)]
  have e : (R.toArray)[t / 33]! = R[t / 33] := by simp [hi]
  rw[e]
  have hl:t % 33<(R[t / 33].enc).length:=by rw[Row.enc_len];exact hj
  rw[getElem!_pos (R[t / 33].enc) (t % 33) hl,getElem?_eq_getElem hl]
 ·rw[Array.getElem?_eq_none (by simp;omega),Array.getElem?_eq_none (by simp[rowsR_len];omega)]
theorem putCells_row (F:List Value) (cs:List Value) (h:F.length≤cs.length):Go.Sort.putCells id 0 F.toArray cs.toArray=(F++cs.drop F.length).toArray:=by
 apply Array.ext_getElem?
 intro i
 simp only[Go.Sort.putCells,Array.getElem?_mapIdx,getElem?_toArray]
 by_cases hi:i<F.length
 ·rw[getElem?_append_left hi,getElem?_eq_getElem hi,getElem?_eq_getElem (by omega)]
  simp[hi]
 ·rw[getElem?_append_right (by omega),getElem?_drop,show F.length+(i - F.length)=i by omega]
  cases hc:cs[i]? with
  | none=>rfl
  | some v=>simp[hi]
theorem perm_of_permIn {d d':Array Row} (h:Sort.PermIn 0 d.size d d'):d'.toList.Perm d.toList:=by
 have h1:=h.2.2
 have e1:(d.extract 0 d.size).toList=d.toList:=by simp
 have e2:(d'.extract 0 d.size).toList=d'.toList:=by rw[←h.1];simp
 rwa [e1,e2] at h1
theorem sorted_of {d':Array Row} (h:Sort.SortedIn (ltOf Row.cf) 0 d'.size d'):d'.toList.Pairwise (fun a b=>ltD b.d a.d=false):=by
 rw[pairwise_iff_getElem]
 intro i j hi hj hij
 have hi':i<d'.size:=by simpa using hi
 have hj':j<d'.size:=by simpa using hj
 have h1:=h i j (Nat.zero_le _) hij hj'
 rw[Row.cf_lt,getElem!_pos d' i hi',getElem!_pos d' j hj'] at h1
 simpa using h1
theorem Step.grow{S:List Nat}{L:OL}{w0 w:World} (hs:Step S L w0 w) (os:Array Obj):Step S L w0 (Go.Sort.grow w os):=by
 have hc:Step [] [] w (Go.Sort.grow w os):=by
  refine⟨⟨rfl,rfl,rfl,?_,fun k hk _=>?_,Nat.le_refl _⟩,by simp,by simp,by simp⟩
  ·show w.heap.size≤(w.heap++os).size
   simp
  ·show(w.heap++os)[k]?=_
   rw[Array.getElem?_append_left hk]
 exact hs.call0 hc
theorem mapBlock_blk{w:World}{b:Nat}{T:TypeId}{cs cs':List Value}{f:Array Value→Array Value} (h:w.heap[b]?=some (blk T cs)) (hf:f cs.toArray=cs'.toArray):Go.Sort.mapBlock w b f = { w with heap:=w.heap.setIfInBounds b (blk T cs') }:=by
 unfold Go.Sort.mapBlock
 congr 1
 apply Array.ext_getElem?
 intro i
 rw[Array.getElem?_modify,Array.getElem?_setIfInBounds]
 have hb:=lt_of_get h
 by_cases hi:b=i
 ·subst hi
  rw[if_pos rfl,if_pos rfl,if_pos hb,h]
  simp[Go.Sort.onCells,blk,hf]
 ·rw[if_neg hi,if_neg hi]
theorem sort_spec{u:Value}{R:List Row}{Lu:OL} (hu:OwnSl 160 33 u R.length (rowsR R) Lu) (w0:World) (hO:Step (Lu.map (·.1)) Lu w0 w0) (hsz:R.length<4611686018427387904) :
  CP 79 #[u,.func (.func 80) #[] #[]] w0 (fun e w'=>∃R' Lu',e=.returned (.tuple #[])∧R'.Perm R∧R'.Pairwise (fun a b=>ltD b.d a.d=false)∧OwnSl 160 33 u R'.length (rowsR R') Lu'∧Step (Lu.map (·.1)) Lu' w0 w'):=by
 obtain⟨hl,⟨rfl,h0,rfl⟩ | ⟨b,cap,more,rfl,rfl,hcap⟩⟩:=hu
 ·obtain rfl:R=[]:=eq_nil_of_length_eq_zero h0
  refine(AnyF.slices_SortFunc_none Tryz.sortRow none 0 (.func (.func 80) #[] #[]) w0).mono fun e w' ⟨h1,h2⟩=>?_
  subst h2
  exact⟨[],[],h1,List.Perm.refl _,List.Pairwise.nil,OwnSl.nil _ _,hO⟩
 ·have hb:w0.heap[b]?=some (blk 160 (rowsR R++more)):=hO.hd
  have eg:∀args w,(callFunc 80 args).run Tryz.prog w=.ok (.enter 80 args) w:=enters_of Tryz.func80 (by kernel_rfl) rfl
  have hH:Go.Sort.HoldsK Row.enc 33 w0 b 0 R.toArray:=by
   unfold Go.Sort.HoldsK
   rw[flatK_rows]
   intro j hj
   have hj':j<(rowsR R).length:=by simpa using hj
   rw[Nat.zero_add,cell_blk hb,getElem?_append_left hj',frozen_blk hb]
   refine⟨?_,rfl⟩
   rw[getElem?_eq_getElem hj']
   simp[hj']
  have hcon:=AnyQ.slices_SortFunc Tryz.sortRow 33 Tryz.isAgg160 Tryz.sizeOf160 Row.enc Row.enc_len Row.enc1 Row.cf Row.swo 80 #[] b 0 cap R.toArray w0 eg (cmpLays b 0 _ w0) hH (lt_of_get hb) (by simpa using hsz)
  rw[size_toArray] at hcon
  refine hcon.mono fun e w' ⟨h1,d',n,os,hp,hso,hw⟩=>?_
  have hp1:=perm_of_permIn (d:=R.toArray) (by simpa using hp)
  have hsz':d'.size=R.length:=by have:=hp.1;simpa using this
  rw[←hsz'] at hso
  have hlen:(rowsR d'.toList).length=(rowsR R).length:=by rw[rowsR_len,rowsR_len,hp1.length_eq]
  refine⟨d'.toList,[(b,blk 160 (rowsR d'.toList++more))],h1,hp1,sorted_of hso,⟨rowsR_len _,.inr ⟨b,cap,more,?_,rfl,?_⟩⟩,?_⟩
  ·rw[hp1.length_eq]
  ·rw[length_append,hlen,←length_append];exact hcap
  ·subst hw
   have hf:Go.Sort.flatK Row.enc 33 d'=(rowsR d'.toList).toArray:=by rw[←flatK_rows]
   have hput:Go.Sort.putCells id 0 (rowsR d'.toList).toArray (rowsR R++more).toArray=(rowsR d'.toList++more).toArray:=by
    rw[putCells_row _ _ (by rw[hlen,length_append];omega),hlen,drop_left]
   have hs1:Step [b] [(b,blk 160 (rowsR R++more))] w0 (Go.Sort.ahead w0 n):=Step.drewN hO n
   show Step [b] _ w0 (Go.Sort.grow (Go.Sort.mapBlock (Go.Sort.ahead w0 n) b (Go.Sort.putCells id 0 (Go.Sort.flatK Row.enc 33 d'))) os)
   rw[hf,mapBlock_blk hs1.hd hput]
   exact(hs1.setO _).grow os
theorem bld_row32 (a0 a1 a2 a3 a4 a5 a6 a7 a8 a9 a10 a11 a12 a13 a14 a15 a16 a17 a18 a19 a20 a21 a22 a23 a24 a25 a26 a27 a28 a29 a30 a31:UInt8) (a:Option Addr) (n c:Nat) (w:World):(Instr.build 160 #[(0,.agg (u8s [a0,a1,a2,a3,a4,a5,a6,a7,a8,a9,a10,a11,a12,a13,a14,a15,a16,a17,a18,a19,a20,a21,a22,a23,a24,a25,a26,a27,a28,a29,a30,a31]).toArray),(1,.slice a n c)]).run Tryz.prog w=.ok (.agg (u8s [a0,a1,a2,a3,a4,a5,a6,a7,a8,a9,a10,a11,a12,a13,a14,a15,a16,a17,a18,a19,a20,a21,a22,a23,a24,a25,a26,a27,a28,a29,a30,a31]++[Value.slice a n c]).toArray) w:=by kernel_rfl
theorem bld_row{d:U8} (hd:d.length=32) (a:Option Addr) (n c:Nat) (w:World):(Instr.build 160 #[(0,.agg (u8s d).toArray),(1,.slice a n c)]).run Tryz.prog w=.ok (.agg (u8s d++[Value.slice a n c]).toArray) w:=by
 have ob:=cells32 hd
 obtain⟨a0,a1,a2,a3,a4,a5,a6,a7,a8,a9,a10,a11,a12,a13,a14,a15,a16,a17,a18,a19,a20,a21,a22,a23,a24,a25,a26,a27,a28,a29,a30,a31,rfl⟩:=ob
 exact bld_row32 a0 a1 a2 a3 a4 a5 a6 a7 a8 a9 a10 a11 a12 a13 a14 a15 a16 a17 a18 a19 a20 a21 a22 a23 a24 a25 a26 a27 a28 a29 a30 a31 a n c w
def datV (v:Value):Value:=match v with | .agg a=>(a[0]?).getD (.slice none 0 0) | _=>.slice none 0 0
theorem all_spec{bs k cap used last m gets puts clock:Nat}{M:List MEnt} (w0:World) (hb:w0.heap[bs]?=some (blk 140 (stC k cap used last m gets puts))) (hm:w0.heap[m]?=some (mapObj M clock))
  (hM:Keys32 M) (hB:Born M clock) (hV:∀p∈M,BlobV p.2.1) (hML:M.length≤1099511627776) :
  CP 31 #[pt bs] w0 (fun e w'=>∃b3 lv Lv R,e=.returned (.func (.func 82) #[] #[pt b3])∧((R:List Row).map (fun r=>(r.d,r.v))).Perm (M.map (fun p=>(p.1,datV p.2.1)))∧R.Pairwise (fun a b=>ltD b.d a.d=false)∧
   OwnSl 160 33 lv R.length (rowsR R) Lv∧Step [] ((b3,blk 156 [lv])::Lv) w0 w'):=by
 have hs:Step [] [] w0 w0:=Step.refl w0
 have hat:At w0 bs 0 (stC k cap used last m gets puts):=At.of_blk hb
 refine calls (n:=26) Tryz.func31 rfl rfl rfl ?_
 refine sr<|wA<|wZ<|sr<|WL.alloc ty156 rfl hs (fun b3 w hs=>?_)
 refine wZ<|cq<|sr<|wm<|wn rfl<|wF 4 u140 rfl ty138 rfl<|wl ty138 rfl ((hat.step hs.clear (by simp)).cell (j:=4) rfl)<|WL.rangeM u138 rfl (hs.old hm (by simp)) rfl hs (fun b10 w hs=>?_)
 refine wZ<|cB<|CW.loop (fun mm f w'=>∃done left R lv Lv,mm=left.length∧(done++left).Perm M∧(R:List Row).map (fun r=>(r.d,r.v))=done.map (fun p:MEnt=>(p.1,datV p.2.1))∧OwnSl 160 33 lv R.length (rowsR R) Lv∧Step [] ((b10,iterO m clock done)::(b3,blk 156 [lv])::Lv) w0 w'∧Holds f [(0,pt bs),(3,pt b3),(10,pt b10)]) (m:=M.length) ?_ ?_
 ·exact⟨[],M,[],_,[],rfl,List.Perm.refl _,rfl,OwnSl.nil _ _,hs,rfl,rfl,rfl,trivial⟩
 ·rintro mm f w ⟨done,left,R,lv,Lv,rfl,hperm,hR,hlv,hs,hf⟩
  have ob:=hf.chain
  obtain⟨g,rfl⟩:=ob
  have hRl:R.length=done.length:=by have:=congrArg List.length hR;simpa using this
  by_cases hne:left=[]
  ·subst hne
   refine sr<|wV (run_nextMEnd rfl hs.hd (hs.old hm (by simp)) hB hperm)<|wx rfl rfl<|wZ<|cq<|CW.cond rfl (fun h=>?_) (fun h=>?_)
   ·cases h
   have hln:R.length<4611686018427387904:=by
    have:=hperm.length_eq
    simp only[append_nil] at this
    omega
   replace hs:=Step.append_comm (L1:=[_,_]) (L2:=Lv) hs
   have hO:=Step.own (L1:=Lv) hs
   refine CW.exit<|sr<|wl ty156 rfl ((hs.append_comm).c1 (v:=lv) rfl)<|wE rfl (run_call en79 rfl rfl) (sort_spec hlv _ (Step.own (L1:=Lv) hs) hln) ?_
   rintro e w ⟨R',Lu',rfl,hp',hso,hlv',hq⟩
   refine⟨_,rfl,?_⟩
   replace hs:=Step.call (L1:=Lv) hs hq
   refine wZ<|sr<|wV (run_makeFuncC rfl)<|wA<|wZ<|CW.ret ?_
   refine fin_ret1 rfl ?_
   rw[append_nil] at hperm
   refine⟨b3,lv,Lu',R',rfl,?_,hso,hlv',(Step.append_comm (L1:=Lu') (L2:=[_,_]) hs).tail⟩
   exact(hp'.map _).trans (by rw[hR];exact hperm.map _)
  ·refine sr<|WL.nextM rfl rfl hs (hs.old hm (by simp)) hB hperm hne (fun p left' w hleft hperm hs=>?_)
   refine wx rfl rfl<|wZ ?_
   have hpM:p∈M:=hperm.mem_iff.1 (by simp)
   have hpv:=hV p hpM
   obtain⟨pd,pv,pb⟩:=p
   obtain⟨a,nn,c,st,rfl⟩:=hpv
   have hpd:pd.length=32:=hM _ hpM
   have hdl:(u8s pd).length=32:=by rw[u8s,length_map,hpd]
   have hlen:left.length=left'.length+1:=by rw[hleft.length_eq];rfl
   have hdn:done.length<M.length:=by
    have:=hperm.length_eq
    simp only[length_append,length_cons,length_nil] at this
    omega
   refine cq<|CW.cond rfl (fun h=>?_) (fun h=>?_)
   ·let r:Row:=⟨pd,.slice a nn c,hpd,rfl⟩
    have hre:(u8s pd++[Value.slice a nn c]).length=33:=r.enc_len
    refine ck<|cB<|sr<|wV (run_entryM rfl hs.hd (hs.old hm (by simp)) hB hpM)<|wx rfl rfl<|wx rfl rfl<|WL.alloc ty44 rfl hs (fun b4 w hs=>?_)
    refine WL.alloc ty158 rfl hs (fun b5 w hs=>?_)
    refine WL.storeAll_1 ty44 rfl rfl ((hdl)) (Cells1.u8s _) hs (by rfl) (fun w hs=>?_)
    refine WL.storeAll ty158 rfl rfl ((by rfl)) (Cells1.of_all rfl) hs (by rfl) (fun w hs=>?_)
    refine wZ<|cr<|wl ty156 rfl (hs.tail.tail.tail.c0 rfl)<|wR ty44 rfl hdl hs.a1<|wF 0 u158 rfl ty76 rfl<|wl ty76 rfl (hs.c0 (v:=.slice a nn c) rfl)<|wV (run_build rfl ((bld_row hpd a nn c _)))<|WL.buildSlice (cs:=u8s pd++[Value.slice a nn c]) u156 ty160 rfl (by decide) rfl (filled1 hre rfl) rfl hs (fun b21 w hs=>?_)
    have hsl:Sl w 33 (.slice (some ⟨b21,0,none⟩) 1 1) 1 (u8s pd++[Value.slice a nn c]):=.own1 hs (by rw[hre])
    refine WL.append u156 u156 ty160 rfl (by decide) rfl rfl (hlv) (Step.append_comm (L1:=[_,_,_,_,_]) (L2:=Lv) hs) (hsl) (r.enc1) (by omega) rfl (fun v22 Lv22 w hv22 hs=>?_)
    replace hs:=Step.front [_,_,_,_] (Step.append_comm (L1:=Lv22) (L2:=[_,_,_,_,_]) hs)
    refine ws1 ty156 rfl rfl (hv22.one) (hs) (fun w hs=>?_)
    refine wZ ?_
    have e1:R.length+1=(R++[r]).length:=by simp
    have e2:rowsR R++(u8s pd++[Value.slice a nn c])=rowsR (R++[r]):=(rowsR_snoc R r).symm
    rw[e1,e2] at hv22
    refine(show _∧_ from⟨rfl,_,?_,done++[(pd,.agg #[.slice a nn c,.int .i64 st],pb)],left',R++[r],v22,Lv22,rfl,hperm,?_,hv22,?_,rfl,rfl,rfl,trivial⟩)
    ·omega
    ·rw[map_append,map_append,hR];rfl
    ·exact Step.append_comm (L1:=Lv22) (L2:=[_,_]) (Step.dropL (L1:=[_,_,_]) (Step.append_comm (L1:=[_,_]) (L2:=_::_::_::Lv22) (hs.front [_,_,_,_])))
   ·cases h
end Go.Gx
namespace Go.Gx
def Fr (ro:Option Nat):Fence:={ Fence.wide with round:=ro }
theorem fr_calls{ro:Option Nat}{k:Nat}{P:Program}{F:FuncId}{args:Array Value}{w:World}{R:Ending→World→Prop} (h:Calls P F args w R):CallsIn (Fr ro) k P F args w R:=callsIn_wide.2 h
section
variable{P:Program}{ops:Array Oper}
def plainOp (o:Oper):Bool:=match o.op with | .defer _=>false | _=>true
theorem plainOp_ne{o:Oper} (h:plainOp o=true):∀c,o.op≠.defer c:=fun c e=>by
 unfold plainOp at h
 rw[e] at h
 cases h
theorem semAt_fr{ro:Option Nat}{o:Oper} (h:plainOp o=true) (ρ:Operand→Value):o.semAt ro ρ=execOp ρ o:=Oper.semAt_eq ro ρ o (plainOp_ne h)
theorem wpListIn_of{ro:Option Nat}{Q:Exit→Act→World→Prop} (hQ:∀a w,¬Q .outgrown a w):∀(l:List Oper) (a:Act) (w:World),(l.all plainOp)=true→wpList P ops Q l a w→wpListIn (Fr ro) 0 P ops Q l a w
 | [],a,w,_,h=>h
 | o::l,a,w,hp,h=>by
  rw[List.all_cons,Bool.and_eq_true] at hp
  have ih:=fun a w=>wpListIn_of (ro:=ro) hQ l a w hp.2
  simp only[wpList] at h
  simp only[wpListIn]
  split
  ·rename_i hw
   rw[if_pos hw] at h
   rcases h with h | ⟨_,a0,w0,h0⟩
   ·refine⟨fun f _=>trivial,?_⟩
    rw[semAt_fr (ro:=(Fr ro).round) hp.1]
    unfold Oper.wp at h
    generalize (execOp a.eval o).run P w=r at h⊢
    cases r with
    | ok x w'=>
     cases x <;> simp only[Oper.upon] at h <;> simp only[Oper.uponIn]
     case value=>exact ih _ _ h
     case skip=>exact ih _ _ h
     case defer=>exact ih _ _ h
     case enter=>
      refine⟨fun h=>by simp[Fr,Fence.wide] at h,fr_calls (h.mono fun e w' hR=>?_)⟩
      cases e with
      | returned v=>exact ih _ _ hR
      | panicked ch=>exact hR
      | outgrown=>exact hR
     case row=>
      refine⟨fun h=>by simp[Fr,Fence.wide] at h,?_⟩
      intro c cs _
      have ob:=h c cs
      obtain⟨v,w',hv,hs⟩:=ob
      exact⟨v,w',ih _ _ hv,stepsIn_wide.2 hs⟩
    | halt x w'=>
     cases x <;> simp only[Oper.upon] at h <;> simp only[Oper.uponIn]
     exact h
   ·exact absurd h0 (hQ _ _)
  ·rename_i hw
   rw[if_neg hw] at h
   exact⟨fun f _=>trivial,ih _ _ h⟩
end
structure WLI (P:Program) (ro:Option Nat) (ops:Array Oper) (Q:Post) (n:Nat) (l:List Oper) (f:Slots) (ds:List Deferred) (w:World):Prop where
 out:∀a,Rep n f ds a→wpListIn (Fr ro) 0 P ops (lift n Q) l a w
structure CWI (P:Program) (ro:Option Nat) (c:Code) (Q:Post) (n:Nat) (f:Slots) (ds:List Deferred) (w:World):Prop where
 out:∀a,Rep n f ds a→c.wpIn (Fr ro) 0 P (lift n Q) a w
section
variable{P:Program}{ro:Option Nat}{ops:Array Oper}{Q:Post}{n:Nat}{rest:List Oper}{f:Slots}{ds:List Deferred}{w w':World}{o:Op}{ty:TypeId}{pos:String}{af:Array Edge}
theorem WLI.nil (h:Q .normal f ds w):WLI P ro ops Q n [] f ds w:=⟨fun a ha=>⟨f,ds,ha,h⟩⟩
def Yields (P:Program) (l:Nat) (args:Array Value) (w:World) (R:Bool→World→Prop):Prop:=
 YieldAt Fence.wide 0 P l args w fun e w'=>∃b,e=.returned (.bool b)∧R b w'
theorem WLI.yield{d l:Nat}{fo:Operand}{args:Array Operand}{ats:Array TypeId}{vs:List Value}{R:Bool→World→Prop} (hd:Nat.blt d n=true) (hx:ev f fo=.func (.yield l) #[] #[]) (hv:args.toList.map (ev f)=vs)
  (hy:Yields P l vs.toArray w R) (h:∀b w',R b w'→WLI P ro ops Q n rest (upd f d (.bool b)) ds w'):WLI P ro ops Q n (⟨some d,.call { callee:=.value fo,args,argTypes:=ats },ty,pos,af,none⟩::rest) f ds w:=
 ⟨fun a ha=>wpListIn_plain rfl fun K hK=>by
  refine⟨fun f _=>trivial,?_⟩
  have e:args.map (ev f)=vs.toArray:=by rw[←hv];apply Array.ext';simp
  obtain⟨fn,tmps,as_,bd,h1,h2⟩:=hy
  have hrun:(execOp (ev f) ⟨some d,.call { callee:=.value fo,args,argTypes:=ats },ty,pos,af,none⟩).run P w=.ok (.round l fn tmps as_ bd) w:=by
   simp[execOp,resolve,hx,Deferred.ofValue,e,invoke,callFunc,h1]
  rw[semAt_fr (ro:=(Fr ro).round) rfl,ha.eval,hrun]
  refine⟨fun h=>by simp[Fr,Fence.wide] at h,RoundIn.mono (F:=Fr ro) (show RoundIn (Fr ro) 0 P l fn tmps as_ bd w _ from h2) fun e w' hR=>?_⟩
  obtain⟨b,rfl,hb⟩:=hR
  exact hK _ _ ((h b w' hb).out _ (ha.put hd (.bool b)))⟩
end
section
variable{P:Program}{ro:Option Nat}{Q:Post}{n:Nat}{f:Slots}{ds:List Deferred}{w:World}
def NoOut (Q:Post):Prop:=∀f ds w,¬Q .outgrown f ds w
theorem CWI.reg{id:Nat}{l:List Oper} (hp:l.all plainOp=true) (hQ:NoOut Q) (h:WL P l.toArray Q n l f ds w):CWI P ro (.region id l.toArray false) Q n f ds w:=
 ⟨fun a ha=>wpIn_region_lit (wpListIn_of (fun a w ⟨f',ds',_,h⟩=>hQ _ _ _ h) l a w hp (h.out a ha))⟩
theorem CWI.seq{x y:Code} (h:CWI P ro x (thenC (CWI P ro y Q n) Q) n f ds w):CWI P ro (.seq x y) Q n f ds w:=
 ⟨fun a ha=>wpIn_seq (wpIn_mono (h.out a ha) fun e a' w' ⟨f',ds',hr,hq⟩=>by
  cases e with
  | normal=>exact(show CWI P ro y Q n f' ds' w' from hq).out a' hr
  | exit id=>exact⟨f',ds',hr,hq⟩
  | goto id=>exact⟨f',ds',hr,hq⟩
  | ret=>exact⟨f',ds',hr,hq⟩
  | panic ch=>exact⟨f',ds',hr,hq⟩
  | outgrown=>exact⟨f',ds',hr,hq⟩)⟩
theorem CWI.cond{c:Operand}{x y:Code}{b:Bool} (hc:ev f c=.bool b) (ht:b=true→CWI P ro x Q n f ds w) (hf:b=false→CWI P ro y Q n f ds w):CWI P ro (.cond c x y) Q n f ds w:=
 ⟨fun a ha=>wpIn_cond_split (by rw[ha.eval];exact hc) (fun h=>(ht h).out a ha) (fun h=>(hf h).out a ha)⟩
theorem CWI.condF{c:Operand}{x y:Code} (hc:ev f c=.bool false) (h:CWI P ro y Q n f ds w):CWI P ro (.cond c x y) Q n f ds w:=
 .cond hc (fun h=>by cases h) (fun _=>h)
theorem CWI.block{id:Nat}{c:Code} (h:CWI P ro c (inB id Q) n f ds w):CWI P ro (.block id c) Q n f ds w:=
 ⟨fun a ha=>wpIn_block (wpIn_mono (h.out a ha) fun e a' w' ⟨f',ds',hr,hq⟩=>by
  cases e with
  | exit id'=>
   simp only[inB] at hq
   by_cases hid:id'=id
   ·subst hid
    simp only[Exit.inBlock,if_true]
    exact⟨f',ds',hr,by simpa using hq⟩
   ·have hb:Nat.beq id' id=false:=by
     cases hb:Nat.beq id' id with
     | true=>exact absurd (Nat.eq_of_beq_eq_true hb) hid
     | false=>rfl
    simp only[Exit.inBlock,hid,if_false]
    rw[hb] at hq
    exact⟨f',ds',hr,hq⟩
  | normal=>exact⟨f',ds',hr,hq⟩
  | goto id=>exact⟨f',ds',hr,hq⟩
  | ret=>exact⟨f',ds',hr,hq⟩
  | panic ch=>exact⟨f',ds',hr,hq⟩
  | outgrown=>exact⟨f',ds',hr,hq⟩)⟩
theorem CWI.skip (h:Q .normal f ds w):CWI P ro .skip Q n f ds w:=⟨fun a ha=>wpIn_skip ⟨f,ds,ha,h⟩⟩
def RecOf (t:Tmp) (assign body:Code) (f:Slots) (n:Nat) (r:Loop):Prop:=r.params=#[t]∧r.assign=assign∧r.body=body∧r.tmps.size=n∧∀k,r.tmps.getD k undef=f k
def Loop.at(r:Loop) (s:LoopState) (p:Option Code):Loop:={ r with state:=s,pending:=p }
def RQ (l:Nat) (R:Bool→World→Prop):Post
 | .normal,_,_,w=>∃S L w0 r,Step S ((l,.loop r)::L) w0 w∧∀w',Step S ((l,.loop (Loop.at r .ready none))::L) w0 w'→R true w'
 | .ret,_,_,w=>∃S L w0 r,Step S ((l,.loop r)::L) w0 w∧∀w',Step S ((l,.loop (Loop.at r .done (some .ret)))::L) w0 w'→R false w'
 | .exit id,_,_,w=>∃S L w0 r,Step S ((l,.loop r)::L) w0 w∧∀w',Step S ((l,.loop (Loop.at r .done (some (.exit id))))::L) w0 w'→R false w'
 | .goto id,_,_,w=>False
 | .panic _,_,_,_=>False
 | .outgrown,_,_,_=>False
theorem rq_end{l:Nat}{R:Bool→World→Prop}{S:List Nat}{L:OL}{w0 w:World}{r:Loop} (hs:Step S ((l,.loop r)::L) w0 w) (jump:Option Code) :
  ∃w',(Instr.endRound l jump).run P w=.ok (.bool jump.isNone) w'∧Step S ((l,.loop (Loop.at r (if jump.isNone then .ready else .done) jump))::L) w0 w':=
 ⟨_,run_endRound jump hs.hd,hs.setObj _⟩
def Behind (P:Program) (ro:Option Nat) (l:Nat) (Q:Post) (n:Nat) (f:Slots) (ds:List Deferred) (w:World):Prop:=
 ∃S L w0 r,Step S ((l,.loop r)::L) w0 w∧r.state≠.busy∧∀w',Step S ((l,.loop (Loop.at r .exhausted r.pending))::L) w0 w'→
  match r.pending with
  | none=>Q .normal f ds w'
  | some c=>CWI P ro c Q n f ds w'
def markOf (b:Nat):Deferred:={ target:=.collected b,args:=#[] }
theorem rangePost_of{l:Nat}{a':Act} (hr:Rep n f ds a'){e:Ending}{w1:World} (h:(∃v,e=.returned v)∧Behind P ro l Q n f ds w1):rangePost (Fr ro) 0 P l (lift n Q) a' e w1:=by
 obtain⟨⟨v,rfl⟩,S,L,w0,r,hs,hb,hk⟩:=h
 refine⟨r.pending,_,run_endLoop hs.hd hb,?_⟩
 have:=hk _ (hs.setObj (.loop (Loop.at r .exhausted r.pending)))
 cases hp:r.pending with
 | none=>
  rw[hp] at this
  exact⟨f,ds,hr,this⟩
 | some c=>
  rw[hp] at this
  exact this.out a' hr
end
section marks
variable{P:Program}{n:Nat}{w:World}{fn:Func}{R:Ending→World→Prop}{f:Slots}
def finM (P:Program) (n:Nat) (fn:Func) (R:Ending→World→Prop):Post:=fun e f ds w=>∀a,Rep n f ds a→bodyPostM Fence.wide 0 P fn R e a w
theorem callsM{F:FuncId}{c:Code}{vs:List Value} (hf:P.funcs[F]?=some fn) (hb:fn.body=some c) (hn:fn.ntmps=n) (hv:Nat.ble vs.length n=true)
  (h:CW P c (finM P n fn R) n (ini vs) [] w):Calls P F vs.toArray w R:=
 (callsIn_wide (n:=0)).1 (callsIn_of_wp_marks hf hb trivial (wpIn_wide.2 (Code.wp_mono (fun e a w ⟨f,ds,hr,hq⟩=>hq a hr) (h.out _ (by rw[hn];exact rep_ini (by simpa using hv))))))
def marksO (bs:List Nat):(List (Nat×Obj)):=bs.map fun b=>(b,.deferred (some []))
def marksS (bs:List Nat):(List (Nat×Obj)):=bs.map fun b=>(b,.deferred none)
theorem leavesM_of{tmps:Array Value}{S:List Nat}{w0:World}:∀(bs:List Nat) (L:OL) (w:World),Step S (marksO bs++L) w0 w→
  (∀w',Step S (marksS bs++L) w0 w'→∃v,(results fn tmps).run P w'=.ok v w'∧R (.returned v) w')→LeavesInM Fence.wide 0 P fn tmps R (bs.map markOf) .returning w
 | [],L,w,hs,h=>h w hs
 | b::bs,L,w,hs,h=>by
  refine⟨by simp,.inl ⟨b,_,rfl,run_takeDeferred hs.hd,?_⟩⟩
  have hs':Step S ((b,.deferred none)::(marksO bs++L)) w0 (putO w b (.deferred none)):=Step.setObj (L:=marksO bs++L) hs _
  refine leavesM_of bs ((b,.deferred none)::L) _ (hs'.perm List.perm_middle.symm) fun w' hw'=>?_
  exact h w' (hw'.perm List.perm_middle)
theorem finM_ret{e:Exit} (he:e=.ret∨e=.normal){bs:List Nat}{S:List Nat}{L:OL}{w0:World} (hs:Step S (marksO bs++L) w0 w)
  (h:∀a,Rep n f (bs.map markOf) a→∀w',Step S (marksS bs++L) w0 w'→∃v,(results fn a.tmps).run P w'=.ok v w'∧R (.returned v) w'):finM P n fn R e f (bs.map markOf) w:=fun a ha=>by
 have:=leavesM_of (fn:=fn) (R:=R) (tmps:=a.tmps) bs L w hs (h a ha)
 rcases he with rfl | rfl
 ·show LeavesInM Fence.wide 0 P fn a.tmps R a.defers .returning w
  rw[ha.defers]
  exact this
 ·show LeavesInM Fence.wide 0 P fn a.tmps R a.defers .returning w
  rw[ha.defers]
  exact this
end marks
section more
variable{P:Program}{ro:Option Nat}{Q:Post}{n l:Nat}{f:Slots}{ds:List Deferred}{w w0:World}{S:List Nat}{L:OL}{r:Loop}
theorem behind_none (hs:Step S ((l,.loop r)::L) w0 w) (hst:r.state=.ready) (hp:r.pending=none) (h:∀w',Step S ((l,.loop (Loop.at r .exhausted none))::L) w0 w'→Q .normal f ds w'):Behind P ro l Q n f ds w:=by
 refine⟨S,L,w0,r,hs,by rw[hst];simp,fun w' hs'=>?_⟩
 rw[hp] at hs'⊢
 exact h w' hs'
theorem Loop.at_back {s : LoopState} {p : Option Code} (hs : r.state = .ready) (hp : r.pending = none) : Loop.at (Loop.at r s p) .ready none = r := by
 cases r
 simp only at hs hp
 subst hs hp
 rfl
end more
section more2
variable{P:Program}{Q:Post}{n:Nat}{f:Slots}{ds:List Deferred}{w w0:World}{S:List Nat}{L:OL}
end more2
section any
variable{P:Program}{ops:Array Oper}{Q:Exit→Act→World→Prop}{md:Region.Mode}{C:World→Prop}
def wpAnyJ (P:Program) (md:Region.Mode) (ops:Array Oper) (Q:Exit→Act→World→Prop) (s:Nat) (C:World→Prop):Nat→Array Bool→Act→World→Prop
 | 0,listed,a,w=>(listed.getD s false=false→C w)∧Region.ready md ops listed=[]∧Q .normal a w
 | fuel+1,listed,a,w=>(listed.getD s false=false→C w)∧(Region.ready md ops listed=[]→Q .normal a w)∧
  ∀i∈Region.ready md ops listed,wpOpIn (Fr none) 0 P ops Q i (wpAnyJ P md ops Q s C fuel (listed.setIfInBounds i true)) a w
theorem wpAnyJ.relax {s s':Nat}{C':World→Prop}:∀{fuel:Nat}{listed:Array Bool}{a:Act}{w:World},listed.getD s false=true→wpAnyJ P md ops Q s' C' fuel listed a w→wpAnyJ P md ops Q s C fuel listed a w
 | 0,_,_,_,hu,h=>⟨fun h0=>(by rw[hu] at h0;cases h0),h.2.1,h.2.2⟩
 | _+1,_,_,_,hu,h=>⟨fun h0=>(by rw[hu] at h0;cases h0),h.2.1,fun i hi=>wpOpIn_mono (fun _ _ h'=>wpAnyJ.relax (getD_set_true hu) h') (h.2.2 i hi)⟩
theorem wpAnyJ.any{s:Nat}:∀{fuel:Nat}{listed:Array Bool}{a:Act}{w:World},wpAnyJ P md ops Q s C fuel listed a w→wpAnyIn (Fr none) 0 P md ops Q fuel listed a w
 | 0,_,_,_,h=>h.2
 | _+1,_,_,_,h=>⟨h.2.1,fun i hi=>wpOpIn_mono (fun _ _ h'=>wpAnyJ.any h') (h.2.2 i hi)⟩
theorem YieldsC.wpOpIn{i:Nat}{o:Oper}{v:Value}{a:Act} (hi:ops[i]?=some o) (hy:YieldsC P ops C o v a)
  {K:Act→World→Prop}{w:World} (hC:C w) (h:K (a.put o.dst v) w):wpOpIn (Fr none) 0 P ops Q i K a w:=by
 unfold Go.wpOpIn
 simp only[hi]
 rcases hy with⟨hw,hv⟩ | ⟨hw,rfl⟩
 ·simp only[hw,if_true]
  refine⟨fun f _=>trivial,?_⟩
  show o.uponIn (Fr none) 0 P a K Q ((execOp a.eval o).run P w)
  rw[hv w hC]
  exact h
 ·simp only[hw,Bool.false_eq_true,if_false];exact⟨fun f _=>trivial,h⟩
theorem wpOpIn_putC{j:Nat}{oi oj:Oper}{v:Value} (hj:ops[j]?=some oj) (hap:oi.apart ops oj=true)
  (hsi:∀cs b,oi.op≠.select cs b) (hsj:∀cs b,oj.op≠.select cs b)
  (hQ:∀c a w,Q (.panic c) (a.put oi.dst v) w→Q (.panic c) a w){K:Act→World→Prop}{a:Act}{w:World}
  (hy:YieldsC P ops C oi v a) (h:wpOpIn (Fr none) 0 P ops Q j K (a.put oi.dst v) w) :
  wpOpIn (Fr none) 0 P ops Q j (fun a' w'=>YieldsC P ops C oi v a'∧K (a'.put oi.dst v) w') a w:=by
 have ob:=Oper.apart_spec hap
 obtain⟨h1,h2,h3⟩:=ob
 have keep:∀(a:Act),YieldsC P ops C oi v a→∀u,YieldsC P ops C oi v (a.put oj.dst u):=fun a hy u=>
  hy.of_same (execOp_put oi hsi a oj.dst u h3) (wanted_put oi a oj.dst u h3)
 have keepD:∀d,YieldsC P ops C oi v { a with defers:=d::a.defers }:=fun d=>hy.of_same rfl rfl
 unfold wpOpIn at *
 simp only[hj] at *
 rw[wanted_put oj a oi.dst v h1] at h
 split
 ·rename_i hw
  simp only[hw,if_true] at h
  unfold Oper.wpIn at *
  refine⟨fun f _=>trivial,?_⟩
  have h:=h.2
  have e0:∀ρ,oj.semAt (Fr none).round ρ=execOp ρ oj:=fun _=>rfl
  rw[e0,execOp_put oj hsj a oi.dst v h1] at h
  rw[e0]
  generalize (execOp a.eval oj).run P w=r at *
  cases r with
  | ok x w'=>
   cases x <;> simp only[Oper.uponIn] at h⊢
   case value u=>exact⟨keep a hy u,by rw[←Act.put_comm a v u h2];exact h⟩
   case skip=>exact⟨keep a hy _,by rw[←Act.put_comm a v undef h2];exact h⟩
   case defer d=>
    refine⟨keep _ (keepD d) _,?_⟩
    rw[←Act.put_comm _ v undef h2,←Act.put_defers]
    exact h
   case enter f args=>
    refine⟨h.1,CallsIn.mono h.2 fun e w'' he=>?_⟩
    cases e with
    | returned u=>exact⟨keep a hy u,by rw[←Act.put_comm a v u h2];exact he⟩
    | panicked c=>exact hQ _ _ _ he
    | outgrown=>exact he
   case row row args=>exact⟨h.1,RowsIn.mono h.2 fun u w'' he=>⟨keep a hy u,by rw[←Act.put_comm a v u h2];exact he⟩⟩
   case round l f tmps assign body=>
    refine⟨h.1,RoundIn.mono h.2 fun e w'' he=>?_⟩
    cases e with
    | returned u=>exact⟨keep a hy u,by rw[←Act.put_comm a v u h2];exact he⟩
    | panicked c=>exact hQ _ _ _ he
    | outgrown=>exact he
  | halt x w'=>
   cases x <;> simp only[Oper.uponIn] at h⊢
   case panic u=>exact hQ _ _ _ h
 ·rename_i hw
  simp only[hw] at h
  exact⟨fun f _=>trivial,keep a hy _,by rw[←Act.put_comm a v undef h2];exact h.2⟩
def chainOf (md:Region.Mode) (ops:Array Oper):Nat→List Nat→Bool
 | _,[]=>true
 | i,j::path=>(match ops[j]? with | some oj=>oj.after.any fun e=>Region.binds md e && e.on == i | none=>true) && chainOf md ops j path
theorem chain_wait{md:Region.Mode}:∀(i:Nat) (path:List Nat){listed:Array Bool},chainOf md ops i path=true→i<listed.size→listed.getD i false=false→(∀p∈path,listed.getD p false=false)→(∀p∈path,p<listed.size)→∀p∈path,p∉Region.ready md ops listed
 | _,[],_,_,_,_,_,_,p,hp=>by cases hp
 | i,j::path,listed,hc,hil,hi,hu,hsz,p,hp=>by
  simp only[chainOf,Bool.and_eq_true] at hc
  rcases List.mem_cons.1 hp with rfl | hp
  ·intro hr
   have ob:=mem_ready.1 hr
   obtain⟨_,oj,hoj,hall⟩:=ob
   have h1:=hc.1
   rw[hoj] at h1
   have ob:=Array.any_eq_true'.1 h1
   obtain⟨e,he,hb⟩:=ob
   simp only[Bool.and_eq_true,beq_iff_eq] at hb
   have h2:=hall e he hb.1
   rw[hb.2] at h2
   simp[hil] at hi h2
   rw[hi] at h2
   cases h2
  ·exact chain_wait j path hc.2 (hsz j (by simp)) (hu j (by simp)) (fun q hq=>hu q (by simp[hq])) (fun q hq=>hsz q (by simp[hq])) p hp
theorem wpAnyJ_first{s i:Nat}{oi:Oper}{v:Value} (path:List Nat) (hi:ops[i]?=some oi) (hsel:∀(j:Nat) (o:Oper) cs b,ops[j]?=some o→o.op≠.select cs b)
  (hs:s∈path) (hch:chainOf md ops i path=true) (hnp:i∉path)
  (hQ:∀c a w,Q (.panic c) (a.put oi.dst v) w→Q (.panic c) a w) :
  ∀(fuel:Nat) (listed:Array Bool) (a:Act) (w:World),i<listed.size→(∀p∈path,p<listed.size)→(∀p∈path,listed.getD p false=false)→
   (∀j oj,ops[j]?=some oj→j≠i→listed.getD j true=false→(∀e∈oj.after,Region.binds md e=true→e.on≠i)→oi.apart ops oj=true)→
   i∈Region.ready md ops listed→YieldsC P ops C oi v a→
   wpAnyJ P md ops Q s C fuel (listed.setIfInBounds i true) (a.put oi.dst v) w→wpAnyJ P md ops Q s C (fuel+1) listed a w:=by
 have hsi:i≠s:=fun e=>by subst e;exact hnp hs
 have hC0:∀(fuel:Nat) (listed:Array Bool) (a:Act) (w:World),(∀p∈path,listed.getD p false=false)→wpAnyJ P md ops Q s C fuel (listed.setIfInBounds i true) a w→C w:=by
  intro fuel listed a w hu H
  have hs0:(listed.setIfInBounds i true).getD s false=false:=by rw[getD_set_ne false hsi];exact hu s hs
  cases fuel with
  | zero=>exact H.1 hs0
  | succ n=>exact H.1 hs0
 intro fuel
 induction fuel with
 | zero=>
  intro listed a w hil hps hu _ hr hy H
  have hC:=hC0 0 listed _ w hu H
  refine⟨fun _=>hC,fun h=>(by rw[h] at hr;cases hr),fun j hj=>?_⟩
  by_cases hji:j=i
  ·subst hji;exact hy.wpOpIn hi hC H
  ·have:=ready_mono hj hji
   rw[H.2.1] at this
   cases this
 | succ fuel ih=>
  intro listed a w hil hps hu hfree hr hy H
  have hC:=hC0 _ listed _ w hu H
  refine⟨fun _=>hC,fun h=>(by rw[h] at hr;cases hr),fun j hj=>?_⟩
  by_cases hji:j=i
  ·subst hji;exact hy.wpOpIn hi hC H
  ·have h1:=H.2.2 j (ready_mono hj hji)
   have ob:=mem_ready.1 hj
   obtain⟨hjun,oj,hoj,hall⟩:=ob
   have hiun:listed.getD i false=false:=by
    have h0:=(mem_ready.1 hr).1
    simp[hil] at h0⊢
    exact h0
   have hnot:∀e∈oj.after,Region.binds md e=true→e.on≠i:=fun e he hb heq=>by
    have h1:=hall e he hb
    rw[heq] at h1
    simp[hil] at hiun h1
    rw[hiun] at h1
    cases h1
   have h2:=wpOpIn_putC hoj (hfree j oj hoj hji hjun hnot) (fun cs b=>hsel i oi cs b hi) (fun cs b=>hsel j oj cs b hoj) hQ hy h1
   have hfree':∀k ok,ops[k]?=some ok→k≠i→(listed.setIfInBounds j true).getD k true=false→
     (∀e∈ok.after,Region.binds md e=true→e.on≠i)→oi.apart ops ok=true:=fun k ok hk hki hun hno=>by
    refine hfree k ok hk hki ?_ hno
    by_cases hjk:j=k
    ·subst hjk;exact hjun
    ·rw[getD_set_ne true hjk] at hun;exact hun
   have hjp:j∉path:=fun hjp=>chain_wait i path hch hil hiun hu hps j hjp hj
   refine wpOpIn_mono (fun a' w' h3=>ih (listed.setIfInBounds j true) a' w' (by simpa using hil) (fun p hp=>by simpa using hps p hp) (fun p hp=>by
    have hne:j≠p:=fun e=>by subst e;exact hjp hp
    rw[getD_set_ne false hne];exact hu p hp) hfree' (ready_mono hr (Ne.symm hji)) h3.1 ?_) h2
   rw[Array.setIfInBounds_comm _ _ hji]
   exact h3.2
end any
section al
variable{P:Program}{ops:Array Oper}{n:Nat}{f:Slots}{ds:List Deferred}{w:World}{C:World→Prop}{s:Nat}{Qn:Slots→World→Prop}{Qp:List PanicEntry→World→Prop}
structure ALI (P:Program) (ops:Array Oper) (s:Nat) (C:World→Prop) (Qn:Slots→World→Prop) (Qp:List PanicEntry→World→Prop) (n:Nat) (ds:List Deferred) (fuel:Nat) (done:List Nat) (f:Slots) (w:World):Prop where
 out:∀a,Rep n f ds a→wpAnyJ P .any ops (anyPost n ds Qn Qp) s C fuel (lst ops.size done) a w
def quietJ (ops:Array Oper) (s:Nat) (path done:List Nat) (i:Nat):Bool:=
 path.contains s && chainOf .any ops i path && !path.contains i && decide (i<(lst ops.size done).size) && path.all (fun p=>decide (p<(lst ops.size done).size) && !(lst ops.size done).getD p false) &&
  Region.noSelect ops && Region.free .any ops (lst ops.size done) i && (Region.ready .any ops (lst ops.size done)).contains i
section
variable{o:Op}{ty:TypeId}{pos:String}{af:Array Edge}{fuel:Nat}{done:List Nat}
theorem ALI.val (i:Nat) (path:List Nat){d:Nat}{v:Value} (hi:ops[i]?=some ⟨some d,o,ty,pos,af,none⟩) (hq:quietJ ops s path done i=true) (hd:Nat.blt d n=true)
  (hrun:∀w,C w→(execOp (ev f) ⟨some d,o,ty,pos,af,none⟩).run P w=.ok (.value v) w)
  (h:ALI P ops s C Qn Qp n ds fuel (i::done) (upd f d v) w):ALI P ops s C Qn Qp n ds (fuel+1) done f w:=by
 simp only[quietJ,Bool.and_eq_true,Bool.not_eq_true',decide_eq_true_eq,List.all_eq_true] at hq
 obtain⟨⟨⟨⟨⟨⟨⟨q1,q2⟩,q3⟩,q4⟩,q5⟩,q6⟩,q7⟩,q8⟩:=hq
 exact⟨fun a ha=>wpAnyJ_first path hi (Region.noSelect_spec q6) (by simpa using q1) q2 (by simpa using q3) AL.panicKept fuel _ a w q4 (fun p hp=>(q5 p hp).1) (fun p hp=>(q5 p hp).2) (Region.free_spec hi q7) (by simpa using q8)
  (.inl ⟨by simp[Region.wanted],fun w hw=>by rw[ha.eval];exact hrun w hw⟩) (h.out _ (ha.put hd v))⟩
def aliPost (P:Program) (ops:Array Oper) (s:Nat) (C:World→Prop) (Qn:Slots→World→Prop) (Qp:List PanicEntry→World→Prop) (n:Nat) (ds:List Deferred) (fuel:Nat) (done:List Nat):Post
 | .normal,f,ds',w=>ds'=ds∧ALI P ops s C Qn Qp n ds fuel done f w
 | .panic c,f,ds',w=>ds'=ds∧Qp c w
 | _,_,_,_=>False
theorem wpOpIn_of_WLI{i:Nat}{o:Oper} (hi:ops[i]?=some o) (h:WLI P none ops (aliPost P ops s C Qn Qp n ds fuel (i::done)) n [o] f ds w){a:Act} (ha:Rep n f ds a) :
  wpOpIn (Fr none) 0 P ops (anyPost n ds Qn Qp) i (wpAnyJ P .any ops (anyPost n ds Qn Qp) s C fuel ((lst ops.size done).setIfInBounds i true)) a w:=by
 have h1:=h.out a ha
 have e:(lst ops.size done).setIfInBounds i true=lst ops.size (i::done):=rfl
 rw[e]
 have hn:∀a' w',lift n (aliPost P ops s C Qn Qp n ds fuel (i::done)) .normal a' w'→wpAnyJ P .any ops (anyPost n ds Qn Qp) s C fuel (lst ops.size (i::done)) a' w':=by
  rintro a' w' ⟨f',ds',hr,rfl,hA⟩
  exact hA.out a' hr
 have hp:∀c a' w',lift n (aliPost P ops s C Qn Qp n ds fuel (i::done)) (.panic c) a' w'→anyPost n ds Qn Qp (.panic c) a' w':=by
  rintro c a' w' ⟨f',ds',hr,rfl,hA⟩
  exact⟨hr.size,hr.defers,hA⟩
 have ho:∀a' w',¬lift n (aliPost P ops s C Qn Qp n ds fuel (i::done)) .outgrown a' w':=by
  rintro a' w' ⟨f',ds',hr,hA⟩
  exact hA
 unfold wpOpIn
 simp only[hi]
 simp only[wpListIn] at h1
 split
 ·rename_i hw
  rw[if_pos hw] at h1
  unfold Oper.wpIn at h1⊢
  refine⟨h1.1,?_⟩
  have h1:=h1.2
  generalize (o.semAt (Fr none).round a.eval).run P w=r at h1⊢
  cases r with
  | ok x w'=>
   cases x <;> simp only[Oper.uponIn] at h1⊢
   case value=>exact hn _ _ h1
   case skip=>exact hn _ _ h1
   case defer=>exact hn _ _ h1
   case enter=>
    refine⟨h1.1,CallsIn.mono h1.2 fun e w' hR=>?_⟩
    cases e with
    | returned v=>exact hn _ _ hR
    | panicked ch=>exact hp _ _ _ hR
    | outgrown=>obtain⟨a1,w1,h2⟩:=hR;exact absurd h2 (ho _ _)
   case row=>exact⟨h1.1,RowsIn.mono h1.2 fun v w' hR=>hn _ _ hR⟩
   case round=>
    refine⟨h1.1,RoundIn.mono h1.2 fun e w' hR=>?_⟩
    cases e with
    | returned v=>exact hn _ _ hR
    | panicked ch=>exact hp _ _ _ hR
    | outgrown=>obtain⟨a1,w1,h2⟩:=hR;exact absurd h2 (ho _ _)
  | halt x w'=>
   cases x <;> simp only[Oper.uponIn] at h1⊢
   exact hp _ _ _ h1
 ·rename_i hw
  rw[if_neg hw] at h1
  exact⟨h1.1,hn _ _ h1.2⟩
theorem ALI.one (i:Nat){o:Oper} (hr:(Region.ready .any ops (lst ops.size done))=[i]) (hi:ops[i]?=some o) (hC:C w)
  (h:WLI P none ops (aliPost P ops s C Qn Qp n ds fuel (i::done)) n [o] f ds w):ALI P ops s C Qn Qp n ds (fuel+1) done f w:=
 ⟨fun a ha=>⟨fun _=>hC,fun h0=>(by rw[hr] at h0;cases h0),fun k hk=>by
  rw[hr] at hk
  simp at hk
  subst hk
  exact wpOpIn_of_WLI hi h ha⟩⟩
theorem ALI.end (hr:(Region.ready .any ops (lst ops.size done)).isEmpty=true) (hC:C w) (h:Qn f w):ALI P ops s C Qn Qp n ds 0 done f w:=
 ⟨fun a ha=>⟨fun _=>hC,by simpa using hr,f,ha,h⟩⟩
theorem ALI.relax (hu:(lst ops.size done).getD s false=true) (h:ALI P ops 0 (fun _=>True) Qn Qp n ds fuel done f w):ALI P ops s C Qn Qp n ds fuel done f w:=
 ⟨fun a ha=>(h.out a ha).relax hu⟩
theorem WLI.of{Q:Post}{ops:Array Oper}{l:List Oper}{ro:Option Nat} (hp:l.all plainOp=true) (hQ:NoOut Q) (h:WL P ops Q n l f ds w):WLI P ro ops Q n l f ds w:=
 ⟨fun a ha=>wpListIn_of (fun a w ⟨f',ds',_,h⟩=>hQ _ _ _ h) l a w hp (h.out a ha)⟩
theorem aliPost_noOut{done:List Nat}:NoOut (aliPost P ops s C Qn Qp n ds fuel done):=fun _ _ _ h=>h
end
theorem CW.anyY{Q:Post}{id:Nat}{l:List Oper} (s k:Nat) (hm:P.follows .mixedOrders=true) (hk:l.length=k)
  (h:ALI P l.toArray s C (fun f w=>Q .normal f ds w) (fun c w=>∀f,Q (.panic c) f ds w) n ds k [] f w.drew):CW P (.region id l.toArray true) Q n f ds w:=
 ⟨fun a ha=>by
  have hw:(Code.region id l.toArray true).wpIn (Fr none) 0 P (anyPost n ds (fun f w=>Q .normal f ds w) (fun c w=>∀f,Q (.panic c) f ds w)) a w:=by
   refine wpIn_region_any hm ?_
   have h1:=(h.out a ha).any
   have e:l.toArray.size=k:=by simp[hk]
   rw[e] at h1⊢
   exact h1
  refine Code.wp_mono ?_ (wpIn_wide.1 hw)
  intro e a' w' hq
  cases e with
  | normal=>obtain⟨f',hr,hq⟩:=hq;exact⟨f',ds,hr,hq⟩
  | panic c=>obtain⟨h1,h2,hq⟩:=hq;exact⟨fun t=>a'.tmps.getD t undef,ds,⟨h1,fun t=>rfl,h2⟩,hq _⟩
  | exit id=>exact hq.elim
  | goto id=>exact hq.elim
  | ret=>exact hq.elim
  | outgrown=>exact hq.elim⟩
end al
section
variable{P:Program}{ro:Option Nat}{Q:Post}{n:Nat}{f:Slots}{ds:List Deferred}{w:World}
def RecOf2 (t t':Tmp) (assign body:Code) (f:Slots) (n:Nat) (r:Loop):Prop:=r.params=#[t,t']∧r.assign=assign∧r.body=body∧r.tmps.size=n∧∀k,r.tmps.getD k undef=f k
theorem yields_of2{l:Nat}{v v':Value}{t t':Tmp}{as_ bd:Code}{r:Loop}{S:List Nat}{L:OL}{w0:World}{R:Bool→World→Prop} (hr:RecOf2 t t' as_ bd f n r) (hst:r.state=.ready) (ht:Nat.blt t n=true) (ht':Nat.blt t' n=true) (hs:Step S ((l,.loop r)::L) w0 w)
  (h:CWI P (some l) as_ (thenC (fun f1 ds1 w1=>∃S1 L1 w10 r1,Step S1 ((l,.loop r1)::L1) w10 w1∧r1.state=.ready∧∀w2,Step S1 ((l,.loop (Loop.at r1 .busy r1.pending))::L1) w10 w2→CWI P (some l) bd (RQ l R) n f1 ds1 w2) (fun _ _ _ _=>False)) n (upd (upd f t v) t' v') [] w) :
  Yields P l #[v,v'] w R:=by
 obtain⟨h1,h2,h3,h4,h5⟩:=hr
 have hy:=run_yield (P:=P) (args:=#[v,v']) hs.hd (by rw[h1];rfl)
 refine⟨_,_,_,_,hy,?_⟩
 rw[h1,h2,h3]
 have hfold:(#[t,t'].zip #[v,v']).foldl (fun(tmps:Array Value) (x:Tmp×Value)=>match x with | (t,a)=>tmps.setIfInBounds t a) r.tmps=(r.tmps.setIfInBounds t v).setIfInBounds t' v':=by
  rw[←Array.foldl_toList,Array.toList_zip]
  rfl
 rw[hfold]
 have hrep0 : Rep n f [] { tmps := r.tmps, defers := [] } := ⟨h4, h5, rfl⟩
 have hrep:=(hrep0.put ht v).put ht' v'
 have hw:=h.out _ hrep
 refine roundIn_of_wpIn (F:=Fence.wide) trivial (wpIn_mono (F:=Fence.wide.inRound l) hw fun e a w1 ⟨f1,ds1,hr1,hq⟩=>?_)
 cases e with
 | normal=>
  obtain⟨S1,L1,w10,r1,hs1,hr1s,hb⟩:=hq
  refine⟨_,run_beginRound hs1.hd hr1s,?_⟩
  have hbw:=hb _ (hs1.setObj (.loop (Loop.at r1 .busy r1.pending)))
  refine wpIn_mono (F:=Fence.wide.inRound l) (hbw.out a hr1) fun e a2 w2 ⟨f2,ds2,hr2,hq2⟩=>?_
  cases e with
  | normal=>
   obtain⟨S2,L2,w20,r2,hs2,hR⟩:=hq2
   have ob:=rq_end (P:=P) (R:=R) hs2 none
   obtain⟨w',he,hs'⟩:=ob
   exact⟨_,w',he,true,rfl,hR w' hs'⟩
  | ret=>
   obtain⟨S2,L2,w20,r2,hs2,hR⟩:=hq2
   have ob:=rq_end (P:=P) (R:=R) hs2 (some .ret)
   obtain⟨w',he,hs'⟩:=ob
   exact⟨_,w',he,false,rfl,hR w' hs'⟩
  | exit id=>
   obtain⟨S2,L2,w20,r2,hs2,hR⟩:=hq2
   have ob:=rq_end (P:=P) (R:=R) hs2 (some (.exit id))
   obtain⟨w',he,hs'⟩:=ob
   exact⟨_,w',he,false,rfl,hR w' hs'⟩
  | goto id=>exact hq2.elim
  | panic ch=>exact hq2.elim
  | outgrown=>exact hq2.elim
 | exit id=>exact hq.elim
 | goto id=>exact hq.elim
 | ret=>exact hq.elim
 | panic ch=>exact hq.elim
 | outgrown=>exact hq.elim
theorem CW.rangeFunc2{g:Operand}{t t':Tmp}{as_ bd:Code}{F:FuncId}{cap:List Value}{S:List Nat}{L:OL}{w0:World} (hF:En P F) (hg:ev f g=.func (.func F) #[] cap.toArray) (hs:Step S L w0 w)
  (h:∀l b0 r w2,RecOf2 t t' as_ bd f n r→r.state=.ready→r.pending=none→Step S ((l,.loop r)::(b0,.deferred (some []))::L) w0 w2→
   Calls P F (.func (.yield l) #[] #[]::cap).toArray w2 fun e w'=>(∃v,e=.returned v)∧Behind P none l Q n f (markOf b0::ds) w'):CW P (.rangeFunc g #[t,t'] as_ bd) Q n f ds w:=
 ⟨fun a ha=>wpIn_wide.1 (wpIn_rangeFunc (F:=Fence.wide) (n:=0) fun fn _=>by
  have hs1:=hs.alloc (.deferred (some []))
  have hs2:=hs1.alloc (.loop { state:=.ready,pending:=none,fn:=fn,tmps:=a.tmps,params:=#[t,t'],assign:=as_,body:=bd,defers:=w.heap.size })
  have hsz:(w.alloc (.deferred (some []))).heap.size=w.heap.size+1:=by simp
  rw[hsz] at hs2
  have hc:=h (w.heap.size+1) w.heap.size _ _ ⟨rfl,rfl,rfl,ha.size,ha.get⟩ rfl rfl hs2
  have hinv:=invoke_fn (P:=P) (w:=(w.alloc (.deferred (some []))).alloc (.loop { state:=.ready,pending:=none,fn:=fn,tmps:=a.tmps,params:=#[t,t'],assign:=as_,body:=bd,defers:=w.heap.size })) hF cap.toArray #[.func (.yield (w.heap.size+1)) #[] #[]]
  refine⟨_,_,_,{ target:=.fn (.func F) cap.toArray,args:=#[.func (.yield (w.heap.size+1)) #[] #[]] },_,F,_,_,run_enterLoop_outer fn a.tmps #[t,t'] as_ bd,?_,fun f' _=>trivial,hinv,fun h=>by simp[Fence.wide] at h,?_⟩
  ·have hk:∀v,ev f (.const v)=v:=fun _=>rfl
   rw[ha.eval]
   simp[rangeCall,resolve,hg,Deferred.ofValue,hk]
  ·have hh:(#[Value.func (.yield (w.heap.size+1)) #[] #[]]++cap.toArray)=(Value.func (.yield (w.heap.size+1)) #[] #[]::cap).toArray:=by apply Array.ext';simp
   rw[hh]
   exact callsIn_wide.2 (hc.mono fun e w' hR=>rangePost_of (ro:=none) (ds:=markOf w.heap.size::ds) (a':={ tmps:=a.tmps,defers:=[{ target:=.collected w.heap.size,args:=#[] }]++a.defers }) ⟨ha.size,ha.get,by simp[ha.defers,markOf]⟩ hR))⟩
end
section
variable{P:Program}{ops:Array Oper}
theorem wpOpsIn_of{ro:Option Nat}{Q:Exit→Act→World→Prop} (hQ:∀a w,¬Q .outgrown a w) (hp:ops.toList.all plainOp=true):∀(l:List Nat) (a:Act) (w:World),wpOps P ops Q l a w→wpOpsIn (Fr ro) 0 P ops Q l a w
 | [],a,w,h=>h
 | i::l,a,w,h=>by
  have ih:=fun a w=>wpOpsIn_of (ro:=ro) hQ hp l a w
  simp only[wpOps] at h
  simp only[wpOpsIn]
  cases ho:ops[i]? with
  | none=>rw[ho] at h;exact ih _ _ h
  | some o=>
   rw[ho] at h
   simp only at h⊢
   have hpo:plainOp o=true:=by
    have hm:o∈ops.toList:=by
     have ob:=Array.getElem?_eq_some_iff.1 ho
     obtain⟨hlt,rfl⟩:=ob
     simp
    exact List.all_eq_true.1 hp o hm
   split
   ·rename_i hw
    rw[if_pos hw] at h
    rcases h with h | ⟨_,a0,w0,h0⟩
    ·refine⟨fun f _=>trivial,?_⟩
     rw[semAt_fr (ro:=(Fr ro).round) hpo]
     unfold Oper.wp at h
     generalize (execOp a.eval o).run P w=r at h⊢
     cases r with
     | ok x w'=>
      cases x <;> simp only[Oper.upon] at h <;> simp only[Oper.uponIn]
      case value=>exact ih _ _ h
      case skip=>exact ih _ _ h
      case defer=>exact ih _ _ h
      case enter=>
       refine⟨fun h=>by simp[Fr,Fence.wide] at h,fr_calls (h.mono fun e w' hR=>?_)⟩
       cases e with
       | returned v=>exact ih _ _ hR
       | panicked ch=>exact hR
       | outgrown=>exact hR
      case row=>
       refine⟨fun h=>by simp[Fr,Fence.wide] at h,?_⟩
       intro c cs _
       have ob:=h c cs
       obtain⟨v,w',hv,hs⟩:=ob
       exact⟨v,w',ih _ _ hv,stepsIn_wide.2 hs⟩
     | halt x w'=>
      cases x <;> simp only[Oper.upon] at h <;> simp only[Oper.uponIn]
      exact h
    ·exact absurd h0 (hQ _ _)
   ·rename_i hw
    rw[if_neg hw] at h
    exact⟨fun f _=>trivial,ih _ _ h⟩
theorem wpIn_region_of{ro:Option Nat}{Q:Exit→Act→World→Prop}{id:Nat}{a:Act}{w:World} (hm:P.follows .mixedOrders=true) (hQ:∀a w,¬Q .outgrown a w) (hp:ops.toList.all plainOp=true)
  (h:wpAny P .any ops Q ops.size (Array.replicate ops.size false) a { w with drawn:=w.drawn+1 }):(Code.region id ops true).wpIn (Fr ro) 0 P Q a w:=
 wpIn_region_draw fun t=>wpOpsIn_of hQ hp _ _ _ (by
  simp only[Region.schedule,hm,Bool.true_or,if_true]
  exact wpAny_sound ops.size t _ a _ h)
end
section
variable{P:Program}{ro:Option Nat}{n:Nat}{f:Slots}{ds:List Deferred}{w w0:World}{S:List Nat}{L:OL}{A C:World→Prop}
theorem CWI.quiet{Q:Post}{id:Nat}{l:List Oper} (hp:l.all plainOp=true) (hQ:NoOut Q) (hm:P.follows .mixedOrders=true) (hB:Region.lexB .any l.toArray=true) (hs:Step S L w0 w)
  (h:QL P l.toArray S L w0 (fun f'=>∀w',Step S L w0 w'→Q .normal f' ds w') n l f ds):CWI P ro (.region id l.toArray true) Q n f ds w:=
 ⟨fun a ha=>by
  have hmono:∀(l':List Oper) (a:Act),wpQuiet P l.toArray (fun w=>Step S L w0 w) (fun a'=>∃f',Rep n f' ds a'∧∀w',Step S L w0 w'→Q .normal f' ds w') l' a→wpQuiet P l.toArray (fun w=>Step S L w0 w) (fun a'=>∀w',Step S L w0 w'→lift n Q .normal a' w') l' a:=by
   intro l'
   induction l' with
   | nil=>exact fun a ⟨f',hr,hq⟩ w' hw'=>⟨f',ds,hr,hq w' hw'⟩
   | cons o l' ih=>
    intro a hh
    simp only[wpQuiet] at hh⊢
    split
    ·rename_i hw;rw[if_pos hw] at hh;exact Oper.quiet_mono ih hh
    ·rename_i hw;rw[if_neg hw] at hh;exact ih _ hh
  have hh:=hmono _ _ (h.out a ha)
  simp only[Region.lexB,Bool.and_eq_true] at hB
  refine wpIn_region_of (Q:=lift n Q) hm (fun a w ⟨f',ds',_,h⟩=>hQ _ _ _ h) (by simpa using hp) (wpAny_of_quiet (C:=fun w=>Step S L w0 w) (Q:=fun a'=>∀w',Step S L w0 w'→lift n Q .normal a' w') (fun _ w' hw' h=>h w' hw') _ _ _ _ hs.drew ?_)
  have:=wpAnyQ_lex (C:=fun w=>Step S L w0 w) (md:=.any) hB.1 l 0 (Array.replicate l.toArray.size false) a (by simp) (by simpa using hB.2) hh
  simpa using this⟩
end
end Go.Gx
namespace Go.Gx
open Go.Proofs List
structure SeqOk (W:World) (b3:Nat) (lv:Value) (R:List Row) (X:List ((List UInt8)×(List UInt8))):Prop where
 cell:W.cell? ⟨b3,0,none⟩=some lv
 rows:Sl W 33 lv R.length (rowsR R)
 len:X.length=R.length
 small:R.length≤1099511627776
 dat:∀(i:Nat) (r:Row) (d x:(List UInt8)),R[i]?=some r→X[i]?=some (d,x)→r.d=d∧x.length<1099511627776∧Sl W 1 r.v x.length (u8s x)
theorem row_fst (r:Row):r.enc.take 32=u8s r.d:=by rw[Row.enc,take_append_of_le_length (by simp[u8s,r.hd]),take_of_length_le (by simp[u8s,r.hd])]
theorem row_snd (r:Row):r.enc[32]?=some r.v:=by
 have h:(u8s r.d).length=32:=by simp[u8s,r.hd]
 rw[Row.enc,getElem?_append_right (by omega),h]
 rfl
theorem At.row{W:World}{b off:Nat}{R:List Row} (h:At W b off (rowsR R)){i:Nat}{r:Row} (hr:R[i]?=some r):At W b (off+i*33) r.enc:=by
 have ob:=List.getElem?_eq_some_iff.1 hr
 obtain⟨hlt,rfl⟩:=ob
 intro j v hj
 have hj33:j<33:=by
  have:=(List.getElem?_eq_some_iff.1 hj).1
  rw[Row.enc_len] at this;exact this
 have h1:=rowsR_at R i j hlt hj33
 rw[Nat.add_assoc]
 exact h _ _ (h1.trans hj)
set_option maxHeartbeats 2000000 in
theorem all2_iter{b3 l:Nat}{lv:Value}{R:List Row}{X:List (U8×U8)} (W0:World)
  {J:Nat→OL→World→Prop}{Jx:World→Prop} (hJ:∀k L W W',J k L W→Step [] [] W W'→J k L W')
  (hRd:∀k L W,J k L W→SeqOk W b3 lv R X)
  {L0:OL} (h0:J 0 L0 W0)
  (hY:∀k d x L W W1 v' Lv,X[k]?=some (d,x)→J k L W→Step [] Lv W W1→OwnSl 5 1 v' x.length (u8s x) Lv→Yields Tryz.prog l #[.agg (u8s d).toArray,v'] W1 fun go W'=>if go=true then ∃L',Step ((Lv++L).map (·.1)) L' W1 W'∧J (k+1) L' W' else Jx W') :
  CP 82 #[.func (.yield l) #[] #[],pt b3] W0 fun e W'=>(∃v,e=.returned v)∧((∃L,J X.length L W')∨Jx W'):=by
 have hs:Step [] [] W0 W0:=Step.refl W0
 have hS0:=hRd _ _ _ h0
 have hlen:=hS0.len
 have hsmall:=hS0.small
 have ob:=Sl.form hS0.rows
 obtain⟨av,cv,rfl⟩:=ob
 refine calls (n:=20) Tryz.func82 rfl rfl rfl ?_
 refine sr<|wl ty156 rfl (hS0.cell)<|wL u156 rfl<|wm<|wZ ?_
 have h1:=hJ _ _ _ _ h0 hs
 refine cB<|CW.loop (fun m f w'=>∃k L,k≤R.length∧m=R.length - k∧J k L w'∧Holds f [(0,.func (.yield l) #[] #[]),(5,.slice av R.length cv),(6,.int .i64 (R.length:Nat)),(7,.int .i64 (k:Nat))]) (m:=R.length) ?_ ?_
 ·exact⟨0,L0,Nat.zero_le _,rfl,h1,rfl,rfl,rfl,rfl,trivial⟩
 ·rintro m f w' ⟨k,L,hk,rfl,hJk,hf⟩
  have ob:=hf.chain
  obtain⟨g,rfl⟩:=ob
  by_cases hlt:k<R.length
  ·have hSk:=hRd _ _ _ hJk
   have ob:∃r,R[k]?=some r:=⟨_,getElem?_eq_getElem hlt⟩
   obtain⟨r,hr⟩:=ob
   obtain⟨⟨d,x⟩,hx⟩:∃p,X[k]?=some p:=⟨_,getElem?_eq_getElem (by omega)⟩
   have ob:=hSk.dat k r d x hr hx
   obtain⟨hrd,hxs,hxv⟩:=ob
   subst hrd
   have ob:=hSk.rows
   obtain⟨hl,⟨a0,c,hc,h00⟩ | ⟨b,off,c,hc,hat⟩⟩:=ob
   ·omega
   have ob:=Value.slice.inj hc
   obtain⟨rfl,-,rfl⟩:=ob
   have hat':=hat.row hr
   have hel:=r.enc_len
   have hdl:(u8s r.d).length=32:=by rw[u8s,length_map,r.hd]
   have hs:Step [] [] w' w':=Step.refl w'
   refine sr<|lT<|wZ<|cq<|cT rfl<|ck<|cq<|cB<|sr<|wI u156 ty160 rfl rfl<|wR ty160 rfl hel (by have h:=hat'.step hs (by simp);exact h)<|WL.alloc ty160 rfl hs (fun b4 w hs=>?_)
   refine WL.storeAll ty160 rfl rfl ((hel)) (r.enc1) hs (by rfl) (fun w hs=>?_)
   refine wZ<|cq ?_
   replace hs:Step [] [(b4,blk 160 r.enc)] w' w:=hs
   refine CW.anyY (C:=fun w=>Step [] [(b4,blk 160 r.enc)] w' w) 6 8 mixedP rfl ?_
   replace hs:=hs.drew
   refine ALI.val 0 [6] rfl (by kernel_rfl) rfl (fun w hs=>run_move) ?_
   refine ALI.val 1 [2,6] rfl (by kernel_rfl) rfl (fun w hs=>run_field (o':=0) u160 rfl ty44 rfl rfl rfl) ?_
   refine ALI.val 2 [6] rfl (by kernel_rfl) rfl (fun w hs=>run_loadN ty44 rfl hdl (by have h:=(hs.a0).take 32;rw[row_fst] at h;exact h)) ?_
   refine ALI.val 3 [4,5,6] rfl (by kernel_rfl) rfl (fun w hs=>run_field (o':=32) u160 rfl ty76 rfl rfl rfl) ?_
   refine ALI.val 4 [5,6] rfl (by kernel_rfl) rfl (fun w hs=>run_load1 ty76 rfl (hs.c0 (row_snd r))) ?_
   refine ALI.one 5 (by kernel_rfl) rfl hs (WLI.of rfl aliPost_noOut ?_)
   have ob:=Sl.form hxv
   obtain⟨ra,rc,hrv⟩:=ob
   refine wE rfl (run_call en83 rfl rfl) (clone_spec _ (hxv.step hs.clear (by simp[Outside];split <;> simp)) (by omega)) ?_
   rintro e w2 ⟨v',Lv,rfl,hu',hq⟩
   refine⟨_,rfl,?_⟩
   replace hs:=Step.call0 hs hq
   refine WL.nil ⟨rfl,?_⟩
   refine ALI.one 6 (by kernel_rfl) rfl (hs.dropL (L1:=Lv)) ?_
   refine WLI.yield rfl rfl rfl (hY k r.d x L w' _ v' Lv hx hJk (hs.dropR (L1:=Lv)) hu') ?_
   intro go w3 hgo
   refine WLI.nil ⟨rfl,?_⟩
   refine ALI.relax (by kernel_rfl) (ALI.one 7 (by kernel_rfl) rfl trivial (WLI.of rfl aliPost_noOut (WL.val rfl (run_not rfl) (WL.nil ⟨rfl,ALI.end (by kernel_rfl) trivial ?_⟩))))
   cases go with
   | true=>
    rw[if_pos rfl] at hgo
    obtain⟨L',hst,hJ'⟩:=hgo
    refine cF rfl<|ck<|cr<|wP ((k+1:Nat):Int)<|wm<|wZ<|(show _∧_ from⟨rfl,_,?_,k+1,L',by omega,rfl,hJ',rfl,rfl,rfl,rfl,trivial⟩)
    omega
   | false=>
    rw[if_neg (by simp)] at hgo
    refine cT rfl<|CW.ret ?_
    exact fin_ret0 rfl ⟨⟨_,rfl⟩,.inr hgo⟩
  ·obtain rfl:k=R.length:=by omega
   refine sr<|lF<|wZ<|cq<|cF rfl<|CW.exit ?_
   exact fin_end0 rfl ⟨⟨_,rfl⟩,.inl ⟨_,by rw[hlen];exact hJk⟩⟩
theorem run_funcNil{P:Program}{f:Slots}{w:World}{d:Option Tmp}{ty:TypeId}{pos:String}{af:Array Edge}{x y:Operand}{T T':TypeId}{F:Fn}{a b:Array Value}{A B:Array TypeId}{va:Bool} (hT:P.underlying T=some (.func A B va)) (hx:ev f x=.func F a b) (hy:ev f y=.nilFunc) :
  (execOp (ev f) ⟨d,.binOp .eql T x y T',ty,pos,af,none⟩).run P w=.ok (.value (.bool false)) w:=by
 have h0:∀d,(Op.equalIn (d+1) T (.func F a b) .nilFunc).run P w=.ok false w:=fun d=>by simp[Op.equalIn,run_underlying hT]
 have h:(Op.equal T (.func F a b) .nilFunc).run P w=.ok false w:=h0 9999
 simp[execOp,hx,hy,eqGuard,binOp,h]
section
variable{P:Program}{f:Slots}{w:World}{d:Option Tmp}{ty:TypeId}{pos:String}{af:Array Edge}{x y:Operand}{T T' E:TypeId}{a:Addr}
theorem run_ptrNil (hT:P.underlying T=some (.pointer E)) (hx:ev f x=.pointer (some a)) (hy:ev f y=.pointer none):(execOp (ev f) ⟨d,.binOp .eql T x y T',ty,pos,af,none⟩).run P w=.ok (.value (.bool false)) w:=by
 have h0:∀d,(Op.equalIn (d+1) T (.pointer (some a)) (.pointer none)).run P w=.ok false w:=fun d=>by simp[Op.equalIn,run_underlying hT,sameAddr]
 have h:(Op.equal T (.pointer (some a)) (.pointer none)).run P w=.ok false w:=h0 9999
 simp[execOp,hx,hy,eqGuard,binOp,h]
theorem run_nilNil (hT:P.underlying T=some (.pointer E)) (hx:ev f x=.pointer none) (hy:ev f y=.pointer none):(execOp (ev f) ⟨d,.binOp .eql T x y T',ty,pos,af,none⟩).run P w=.ok (.value (.bool true)) w:=by
 have h0:∀d,(Op.equalIn (d+1) T (.pointer none) (.pointer none)).run P w=.ok true w:=fun d=>by simp[Op.equalIn,run_underlying hT,sameAddr]
 have h:(Op.equal T (.pointer none) (.pointer none)).run P w=.ok true w:=h0 9999
 simp[execOp,hx,hy,eqGuard,binOp,h]
end
def roundZ (a:Int) (n:Nat):Nat:=(a % (n:Int)).toNat
theorem roundZ_lt{a:Int}{n:Nat} (h:0<n):roundZ a n<n:=by
 have h1:=Int.emod_nonneg a (show(n:Int)≠0 by omega)
 have h2:=Int.emod_lt_of_pos a (show(0:Int)<n by omega)
 unfold roundZ
 omega
end Go.Gx
namespace Go.Gx
open Go.Proofs List
attribute [local irreducible] shaL cutD frontL
theorem View.mem{D:OL}{M:List MEnt}{X:List Blb} (h:View D M X){p:MEnt} (hp:p∈M):∃b∈X,EntB D p b:=by
 induction h with
 | nil=>cases hp
 | cons h _ ih=>
  rcases mem_cons.1 hp with rfl | hp
  ·exact⟨_,by simp,h⟩
  ·have ob:=ih hp
   obtain⟨b,hb,he⟩:=ob
   exact⟨b,by simp[hb],he⟩
theorem Step.callAll0{S:List Nat}{L:OL}{w0 w w':World} (h:Step S [] w0 w) (hc:Step [] L w w'):Step S L w0 w':=by
 have:=Step.call0 h hc
 rwa [append_nil] at this
section
variable{bs:Nat}{s:AS}{D L:OL}{w0:World}
theorem all_abs (hR:PRep bs s D L) (ok:s.Ok) (hw:Lives (L++D) w0):CP 31 #[pt bs] w0 fun e w'=>∃b3 lv Lv R,e=.returned (.func (.func 82) #[] #[pt b3])∧
  OwnSl 160 33 lv R.length (rowsR R) Lv∧R.length=s.X.length∧(∀(i:Nat) (r:Row) (b:Blb),(R:List Row)[i]?=some r→s.X[i]?=some b→r.d=b.d∧Held D r.v b.x)∧Step [] ((b3,blk 156 [lv])::Lv) w0 w':=by
 have ob:=hR.open ok hw
 obtain⟨m,clock,M,X',o⟩:=ob
 have hlenM:M.length=s.X.length:=by rw[o.view.length,o.perm.length_eq]
 have hul:=used_len s.X
 have hou:=ok.used
 refine(all_spec w0 o.hb o.hm o.keys o.born o.view.blobV (by omega)).mono fun e w' ⟨b3,lv,Lv,R,h1,h2,h3,h4,h5⟩=>?_
 have hRl:R.length=s.X.length:=by have:=h2.length_eq;simp only[length_map] at this;omega
 have hd:R.map (fun r=>r.d)=s.X.map (fun b=>b.d):=by
  have hp1:(R.map (fun r=>r.d)).Perm (s.X.map (fun b=>b.d)):=by
   have e1:R.map (fun r=>r.d)=(R.map (fun r=>(r.d,r.v))).map Prod.fst:=by simp[map_map,Function.comp_def]
   have e2:M.map (fun p=>p.1)=(M.map (fun p=>(p.1,datV p.2.1))).map Prod.fst:=by simp[map_map,Function.comp_def]
   rw[e1]
   refine(h2.map Prod.fst).trans ?_
   rw[←e2,o.view.fst]
   exact o.perm.map _
  refine hp1.eq_of_pairwise (le:=fun a b=>ltD b a=false) (fun a b _ _ h1 h2=>ltD_tri _ _ h2 h1) ?_ ?_
  ·rw[pairwise_map];exact h3
  ·rw[pairwise_map];exact ok.sorted.imp fun h=>ltD_asymm h
 refine⟨b3,lv,Lv,R,h1,h4,hRl,fun i r b hr hb=>?_,h5⟩
 have hdi:r.d=b.d:=by
  have h6:(R.map (fun r=>r.d))[i]?=some r.d:=by rw[getElem?_map,hr];rfl
  rw[hd,getElem?_map,hb] at h6
  exact(Option.some.inj h6).symm
 refine⟨hdi,?_⟩
 have h7:(r.d,r.v)∈M.map (fun p=>(p.1,datV p.2.1)):=h2.mem_iff.1 (mem_map.2 ⟨r,mem_of_getElem? hr,rfl⟩)
 have ob:=mem_map.1 h7
 obtain⟨p,hp,hpe⟩:=ob
 rw[Prod.mk.injEq] at hpe
 have ob:=o.view.mem hp
 obtain⟨b',hb',hE⟩:=ob
 obtain⟨hE1,v,hE2,hE3⟩:=hE
 have hbb:b'=b:=by
  have h8:=findX_mem ok.sorted.nodup (o.perm.mem_iff.1 hb')
  have h9:=findX_mem ok.sorted.nodup (mem_of_getElem? hb)
  rw[show b'.d=b.d by rw[←hE1,hpe.1,hdi]] at h8
  rw[h8] at h9
  exact Option.some.inj h9
 subst hbb
 have:datV p.2.1=v:=by rw[hE2];rfl
 rw[←hpe.2,this]
 exact hE3
end
theorem lay_k {s s':AS}{d x:U8} (h:s.lay d x=some s'):s'.k=s.k:=by
 unfold AS.lay at h
 split at h
 ·obtain rfl:=(Option.some.inj h).symm;rfl
 ·cases h
theorem put_k (s:AS) (y:U8):(s.put y).2.2.k=s.k:=by
 have hgo:∀r:U8×Nat×AS,r=(match ({ s with puts:=s.puts+1 }:AS).lay (frontL y s.k) y with | some s2=>(frontL y s.k,0,s2) | none=>(zD,43,{ s with puts:=s.puts+1 }))→r.2.2.k=s.k:=by
  intro r hr
  cases hl:({ s with puts:=s.puts+1 }:AS).lay (frontL y s.k) y with
  | none=>rw[hl] at hr;rw[hr]
  | some s2=>rw[hl] at hr;subst hr;exact(lay_k hl).trans rfl
 unfold AS.put
 simp only
 split
 ·rfl
 ·split
  ·split
   ·rfl
   ·split
    ·rfl
    ·exact hgo _ rfl
  ·exact hgo _ rfl
section
variable{S:List Nat}{A L L' D D' Lv:OL}{w0 w w':World}
theorem Own.live (hs:Step S (A++(L++D)) w0 w):Lives (L++D) w:=Lives.of (L2:=[]) (by rw[append_nil];exact hs.dropL)
theorem Own.put (hs:Step S (A++(L++D)) w0 w) (hq:Step (L.map (·.1)) (L'++D') w w'):Step S (A++(L'++(D'++D))) w0 w':=by
 have h1:Step S (L++(D++A)) w0 w:=by
  have:=hs.append_comm
  rwa [append_assoc] at this
 have h2:=Step.call (L1:=L) h1 hq
 have h3:Step S ((L'++(D'++D))++A) w0 w':=by
  have e:L'++D'++(D++A)=(L'++(D'++D))++A:=by simp[append_assoc]
  rwa [e] at h2
 exact h3.append_comm
theorem Own.set (hs:Step S (A++(L++D)) w0 w) (hq:Step (L.map (·.1)) L' w w'):Step S (A++(L'++D)) w0 w':=by
 have:=Own.put (D':=[]) hs (by rw[append_nil];exact hq)
 simpa using this
end
theorem Lives.after{L:OL}{w w':World} (h:Lives L w) (hs:Step [] [] w w'):Lives L w':=Step.own0 (h.step0 hs)
section
variable{bs:Nat}{s:AS}{D L:OL}{w0:World}
theorem seqOk_of (ok:s.Ok) (hw:Lives (L++D) w0){b3:Nat}{lv:Value}{Lv Y:OL}{R:List Row} (ha1:OwnSl 160 33 lv R.length (rowsR R) Lv) (ha2:R.length=s.X.length)
  (ha3:∀(i:Nat) (r:Row) (b:Blb),(R:List Row)[i]?=some r→s.X[i]?=some b→r.d=b.d∧Held D r.v b.x){W:World} (hs:Step [] (Y++((b3,blk 156 [lv])::Lv)) w0 W):SeqOk W b3 lv R (s.X.map fun b=>(b.d,b.x)):=by
 have hl:(s.X.map fun b=>(b.d,b.x)).length=R.length:=by rw[length_map,ha2]
 have hul:=used_len s.X
 have hou:=ok.used
 refine⟨?_,?_,hl,by omega,?_⟩
 ·have h:=hs.has (b3,blk 156 [lv]) (by simp)
  rw[cell_blk h]
  rfl
 ·exact ha1.sl (L:=[]) (by rw[append_nil];exact(Step.dropL hs).tail)
 ·intro i r d x hr hx
  rw[getElem?_map] at hx
  cases hb:s.X[i]? with
  | none=>rw[hb] at hx;cases hx
  | some b=>
   rw[hb] at hx
   have ob:=ha3 i r b hr hb
   obtain⟨h1,h2⟩:=ob
   simp only[Option.map_some,Option.some.injEq,Prod.mk.injEq] at hx
   obtain⟨rfl,rfl⟩:=hx
   have hm:=used_mem (mem_of_getElem? hb)
   exact⟨h1,by omega,h2.sl fun p hp=>(hw.step0 hs.clear).has p (by simp[hp])⟩
end
end Go.Gx
namespace Go.Gx
open Go.Proofs List
structure Std where
 d:(List UInt8)
 dir:Bool
 dep:Nat
 p:(List UInt8)
structure Rm where
 n:Int
 d:Int
 b:Int
structure WI where
 p:(List UInt8)
 dir:Bool
 x:(List UInt8)
structure WS where
 n:Nat
 b:Nat
 g:Nat
 m:List ((List UInt8)×Bool)
 l:List WI
def joinP (p n:(List UInt8)):(List UInt8):=if p=[] then n else p++(47::n)
def kidOf (x:Std) (e:Ent):Std:=⟨e.dig,decide (e.kind=2),x.dep+1,joinP x.p e.name⟩
def kids (x:Std) (y:(List UInt8)):List Std:=(decL y).map (kidOf x)
def push (x:Std) (t:WS):WS:=if x.dir=true∧x.dep≠0 then { t with l:=t.l++[⟨x.p,true,[]⟩] } else t
def WS.node (t:WS):WS:={ t with n:=t.n+1 }
def WS.meet (t:WS) (x:Std):WS:={ t with g:=t.g+1,m:=t.m++[(x.d,x.dir)] }
def WS.byte (t:WS) (k:Nat):WS:={ t with b:=t.b+k }
def WS.item (t:WS) (i:WI):WS:={ t with l:=t.l++[i] }
def visit (s:AS) (rm:Rm) (x:Std) (t:WS):Int×List Std×WS:=
 if rm.d<x.dep then (33,[],t) else
 if rm.n<(t.n:Int)+1 then (62,[],t.node) else
 if (s.get x.d).2≠0 then ((s.get x.d).2,[],t.node.meet x) else
 if x.dir=true then
  if decE (s.get x.d).1≠0 then (decE (s.get x.d).1,[],t.node.meet x) else (0,kids x (s.get x.d).1,t.node.meet x)
 else if rm.b<(t.b:Int)+(s.get x.d).1.length then (63,[],(t.node.meet x).byte (s.get x.d).1.length)
 else (0,[],((t.node.meet x).byte (s.get x.d).1.length).item ⟨x.p,false,(s.get x.d).1⟩)
def seqS (f:Std→WS→Int×WS):List Std→WS→Int×WS
 | [],t=>(0,t)
 | x::l,t=>if (f x t).1≠0 then f x t else seqS f l (f x t).2
def standP (s:AS) (rm:Rm):Nat→Std→WS→Int×WS
 | 0,x,t=>(33,t)
 | n+1,x,t=>if (visit s rm x t).1≠0 then ((visit s rm x t).1,(visit s rm x t).2.2) else seqS (fun y u=>standP s rm n y (push y u)) (visit s rm x t).2.1 (visit s rm x t).2.2
def stand (s:AS) (rm:Rm) (n:Nat) (x:Std) (t:WS):Int×WS:=standP s rm n x (push x t)
def runs (s:AS) (rm:Rm):List Std→WS→Int×WS:=seqS fun x t=>stand s rm (34 - x.dep) x t
theorem seqS_append (f:Std→WS→Int×WS):∀(a b:List Std) (t:WS),seqS f (a++b) t=if (seqS f a t).1≠0 then seqS f a t else seqS f b (seqS f a t).2
 | [],b,t=>by simp[seqS]
 | x::a,b,t=>by
  rw[cons_append,seqS,seqS,seqS_append f a b]
  by_cases h:(f x t).1≠0
  ·simp only[if_pos h]
  ·simp only[if_neg h]
theorem seqS_congr{f g:Std→WS→Int×WS}:∀{l:List Std}{t:WS},(∀x∈l,∀t,f x t=g x t)→seqS f l t=seqS g l t
 | [],_,_=>rfl
 | x::l,t,h=>by
  rw[seqS,seqS,h x (by simp) t]
  split
  ·rfl
  ·exact seqS_congr fun y hy=>h y (by simp[hy])
theorem visit_kids{s:AS}{rm:Rm}{x:Std}{t:WS}{y:Std} (h:y∈(visit s rm x t).2.1):y.dep=x.dep+1∧x.dir=true:=by
 unfold visit at h
 split at h
 ·cases h
 split at h
 ·cases h
 split at h
 ·cases h
 split at h
 ·rename_i hd
  split at h
  ·cases h
  ·have ob:=mem_map.1 h
   obtain⟨e,_,rfl⟩:=ob
   exact⟨rfl,hd⟩
 ·split at h <;> cases h
theorem stand_succ (s:AS){rm:Rm} (n:Nat) (x:Std) (t:WS):stand s rm (n+1) x t=if (visit s rm x (push x t)).1≠0 then ((visit s rm x (push x t)).1,(visit s rm x (push x t)).2.2) else seqS (fun y u=>standP s rm n y (push y u)) (visit s rm x (push x t)).2.1 (visit s rm x (push x t)).2.2:=rfl
theorem visit_deep{s:AS}{rm:Rm}{x:Std}{t:WS} (h:rm.d<x.dep):visit s rm x t=(33,[],t):=if_pos h
theorem runs_cons (s:AS){rm:Rm} (hrm:rm.d≤32) (x:Std) (l:List Std) (t:WS) :
  runs s rm (x::l) t=if (visit s rm x (push x t)).1≠0 then ((visit s rm x (push x t)).1,(visit s rm x (push x t)).2.2) else runs s rm ((visit s rm x (push x t)).2.1++l) (visit s rm x (push x t)).2.2:=by
 unfold runs
 rw[seqS]
 by_cases hx:x.dep≤33
 ·have ob:∃n,34 - x.dep=n+1:=⟨33 - x.dep,by omega⟩
  obtain⟨n,hn⟩:=ob
  rw[hn,stand_succ]
  by_cases he:(visit s rm x (push x t)).1≠0
  ·rw[if_pos he,if_pos he,if_pos he]
  ·rw[if_neg he,if_neg he,seqS_append]
   have hc:seqS (fun y u=>standP s rm n y (push y u)) (visit s rm x (push x t)).2.1 (visit s rm x (push x t)).2.2=seqS (fun x t=>stand s rm (34 - x.dep) x t) (visit s rm x (push x t)).2.1 (visit s rm x (push x t)).2.2:=seqS_congr fun y hy t=>by
    have:=(visit_kids hy).1
    rw[show 34 - y.dep=n by omega]
    rfl
   rw[hc]
 ·have h0:34 - x.dep=0:=by omega
  have hv:visit s rm x (push x t)=(33,[],push x t):=visit_deep (by omega)
  rw[h0,hv]
  simp[stand,standP]
def rootS (d:(List UInt8)):Std:=⟨d,true,0,[]⟩
def ws0:WS:=⟨0,0,0,[],[]⟩
theorem push_root (d:U8) (t:WS):push (rootS d) t=t:=if_neg (by simp[rootS])
theorem runs_root (s:AS){rm:Rm} (d:U8) (t:WS):runs s rm [rootS d] t=standP s rm 34 (rootS d) t:=by
 have e:runs s rm [rootS d] t=if (stand s rm 34 (rootS d) t).1≠0 then stand s rm 34 (rootS d) t else (0,(stand s rm 34 (rootS d) t).2):=rfl
 rw[e,stand,push_root]
 by_cases h:(standP s rm 34 (rootS d) t).1≠0
 ·rw[if_pos h]
 ·rw[if_neg h]
  have h:(standP s rm 34 (rootS d) t).1=0:=by simpa using h
  exact Prod.ext h.symm rfl
def minZ (a b:Int):Int:=if a<b then a else b
def rmOf (n d b:Int):Rm:=⟨minZ n 65536,minZ d 32,minZ b 67108864⟩
structure WS.Good (k:Nat) (t:WS):Prop where
 n:t.n≤65536
 b:t.b≤67108864
 g:t.g≤t.n
 m:t.m.length≤t.n
 l:t.l.length≤t.n+k
structure Rm.Ok (rm:Rm):Prop where
 n : -9223372036854775808≤rm.n∧rm.n≤65536
 d : -9223372036854775808≤rm.d∧rm.d≤32
 b : -9223372036854775808≤rm.b∧rm.b≤67108864
def kOf (x:Std):Nat:=if x.dir=true then 1 else 0
theorem WS.Good.mono{t:WS}{k m:Nat} (h:t.Good k) (hk:k≤m):t.Good m:=⟨h.n,h.b,h.g,h.m,by have:=h.l;omega⟩
theorem ws0_good:ws0.Good 0:=⟨by simp[ws0],by simp[ws0],by simp[ws0],by simp[ws0],by simp[ws0]⟩
theorem push_good{t:WS} (x:Std) (h:t.Good 0):(push x t).Good (kOf x):=by
 unfold push kOf
 by_cases hx:x.dir=true
 ·rw[if_pos hx]
  by_cases h2:x.dep≠0
  ·rw[if_pos ⟨hx,h2⟩]
   exact⟨h.n,h.b,h.g,h.m,by have:=h.l;show(t.l++[_]).length≤_;simp;omega⟩
  ·rw[if_neg (fun hc=>h2 hc.2)]
   exact h.mono (by omega)
 ·rw[if_neg hx,if_neg (fun hc=>hx hc.1)]
  exact h
theorem visit_good{s:AS}{rm:Rm} (hrm:rm.Ok){x:Std}{t:WS} (h:t.Good (kOf x)) (he:(visit s rm x t).1=0):(visit s rm x t).2.2.Good 0:=by
 have h1:=h.n;have h2:=h.b;have h3:=h.g;have h4:=h.m;have h5:=h.l
 have hn:=hrm.n;have hb:=hrm.b
 unfold visit at he⊢
 by_cases c1:rm.d<x.dep
 ·rw[if_pos c1] at he;cases he
 rw[if_neg c1] at he⊢
 by_cases c2:rm.n<(t.n:Int)+1
 ·rw[if_pos c2] at he;cases he
 rw[if_neg c2] at he⊢
 by_cases c3:(s.get x.d).2≠0
 ·rw[if_pos c3] at he;exact absurd (Int.ofNat.inj he) c3
 rw[if_neg c3] at he⊢
 by_cases c4:x.dir=true
 ·rw[if_pos c4] at he⊢
  unfold kOf at h5
  rw[if_pos c4] at h5
  by_cases c5:decE (s.get x.d).1≠0
  ·rw[if_pos c5] at he;exact absurd he c5
  rw[if_neg c5]
  exact⟨by show t.n+1≤_;omega,h2,by show t.g+1≤t.n+1;omega,by show(t.m++[_]).length≤t.n+1;simp;omega,by show t.l.length≤t.n+1+0;omega⟩
 ·rw[if_neg c4] at he⊢
  unfold kOf at h5
  rw[if_neg c4] at h5
  by_cases c5:rm.b<(t.b:Int)+(s.get x.d).1.length
  ·rw[if_pos c5] at he;cases he
  rw[if_neg c5]
  exact⟨by show t.n+1≤_;omega,by show t.b+_≤_;omega,by show t.g+1≤t.n+1;omega,by show(t.m++[_]).length≤t.n+1;simp;omega,by show(t.l++[_]).length≤t.n+1+0;simp;omega⟩
theorem seqS_good{f:Std→WS→Int×WS} (hf:∀x t,t.Good 0→(f x t).1=0→(f x t).2.Good 0):∀{l:List Std}{t:WS},t.Good 0→(seqS f l t).1=0→(seqS f l t).2.Good 0
 | [],t,h,_=>h
 | x::l,t,h,he=>by
  rw[seqS] at he⊢
  by_cases c:(f x t).1≠0
  ·rw[if_pos c] at he;exact absurd he c
  ·rw[if_neg c] at he⊢
   exact seqS_good hf (hf x t h (by simpa using c)) he
theorem standP_good{s:AS}{rm:Rm} (hrm:rm.Ok):∀(n:Nat){x:Std}{t:WS},t.Good (kOf x)→(standP s rm n x t).1=0→(standP s rm n x t).2.Good 0
 | 0,x,t,h,he=>by cases he
 | n+1,x,t,h,he=>by
  rw[standP] at he⊢
  by_cases c:(visit s rm x t).1≠0
  ·rw[if_pos c] at he;exact absurd he c
  ·rw[if_neg c] at he⊢
   exact seqS_good (fun y u hu hy=>standP_good hrm n (push_good y hu) hy) (visit_good hrm h (by simpa using c)) he
def look (s:AS) (rm:Rm) (x:Std) (t:WS):Int×WS:=
 if rm.d<x.dep then (33,t) else
 if rm.n<(t.n:Int)+1 then (62,t.node) else
 ((s.get x.d).2,t.node.meet x)
theorem push_file{x:Std} (hx:x.dir=false) (t:WS):push x t=t:=if_neg (by simp[hx])
def AS.gotN (s:AS) (g:Nat):AS:={ s with gets:=s.gets+g }
theorem AS.Ok.gotN{s:AS} (h:s.Ok) (g:Nat):(s.gotN g).Ok:=⟨h.k1,h.k2,h.cap,h.sorted,h.len,h.used⟩
theorem AS.Few.gotN{s:AS}{n:Nat} (h:s.Few n) (g:Nat):(s.gotN g).Few (n+g):=⟨Nat.le_add_right_of_le h.last,Nat.add_le_add_right h.gets g,Nat.le_add_right_of_le h.puts⟩
theorem get_len{s:AS} (ok:s.Ok) (d:U8):(s.get d).1.length≤67108864:=by
 unfold AS.get
 have hu:=ok.used
 split
 ·simp
 ·rename_i b hb
  split
  ·have:=used_mem (findX_some hb).1;simp only;omega
  ·simp
end Go.Gx
namespace Go.Gx
open Go.Proofs List
attribute [local irreducible] shaL cutD frontL
def wkC (br:Nat) (rm:Rm) (t:WS) (vL vM:Value):List Value:=[.pointer (some ⟨br,0,none⟩),.int .i64 rm.n,.int .i64 rm.d,.int .i64 rm.b,.int .i64 (t.n:Nat),.int .i64 (t.b:Nat),vL,vM]
def digsM (m:List ((List UInt8)×Bool)):List Value:=m.flatMap fun p=>u8s p.1
def wiC (u:WI×Value):List Value:=[str u.1.p,.bool u.1.dir,u.2]
def rowsW (T:List (WI×Value)):List Value:=T.flatMap wiC
def DWk (bw br:Nat) (rm:Rm) (t:WS) (D W:(List (Nat×Obj))):Prop:=
 ∃vL LL vM LM T,W=(bw,blk 180 (wkC br rm t vL vM))::(LL++LM)∧OwnSl 155 3 vL t.l.length (rowsW T) LL∧OwnSl 44 32 vM t.m.length (digsM t.m) LM∧T.map (·.1)=t.l∧∀u∈T,Held D u.2 u.1.x
section
variable{S:List Nat}{A P X W W' R R' D:OL}{a b c:Nat×Obj}{w0 w w':World}
theorem Step.narrow (hw:Lives (W++D) w0) (h:Step ((W++D).map (·.1)) (A++D) w0 w):Step (W.map (·.1)) A w0 w:=by
 refine⟨⟨h.chg.os,h.chg.tape,h.chg.output,h.chg.size,fun k hk hn=>?_,h.chg.drawn⟩,(Step.dropR h).nodup,fun p hp=>h.has p (by simp[hp]),fun p hp=>?_⟩
 ·by_cases hD:k∈D.map (·.1)
  ·have ob:=mem_map.1 hD
   obtain⟨p,hp,rfl⟩:=ob
   rw[h.has p (by simp[hp]),hw.has p (by simp[hp])]
  ·exact h.chg.block k hk (by rw[map_append,mem_append];exact fun h=>h.elim hn hD)
 ·rcases h.new p (by simp[hp]) with h1 | h1
  ·rw[map_append,mem_append] at h1
   rcases h1 with h1 | h1
   ·exact .inl h1
   ·have hn:=h.nodup
    rw[map_append,nodup_append] at hn
    exact absurd rfl (hn.2.2 p.1 (mem_map_of_mem hp) p.1 h1)
  ·exact .inr h1
end
section
variable{bw br N:Nat}{rm:Rm}{s:AS}{t:WS}{x:Std}{D W R:OL}{w0:World}
end
section
variable{S:List Nat}{A B X W W' R R' D L:OL}{w0 w w':World}
theorem Lives.mk (h:Step S L w0 w):Lives L w:=Step.own (L1:=L) (L:=[]) (by rw[append_nil];exact h)
end
theorem mem_right{D X:OL}:∀p∈D,p∈X++D:=fun p hp=>mem_append_right _ hp
def WkPost (bw br:Nat) (rm:Rm) (s:AS) (r:Int×WS) (D W R:(List (Nat×Obj))) (w0:World) (e:Ending) (w':World):Prop:=
 ∃W' R' D',e=.returned (.int .i64 r.1)∧DWk bw br rm r.2 (D'++D) W'∧RRep br (s.gotN r.2.g) (D'++D) R'∧Step ((W++R).map (·.1)) (W'++(R'++D')) w0 w'
section
variable{bw br N:Nat}{rm:Rm}{s:AS}{t:WS}{x:Std}{D W R:OL}{w0:World}
end
section
variable{P:Program}{f:Slots}{w w':World}{ops:Array Oper}{n d:Nat}{ds:List Deferred}
theorem CW.seqM{Q:Post}{x y:Code} (M:Slots→World→Prop) (h:CW P x (thenC (fun f' ds' w'=>ds'=ds∧M f' w') Q) n f ds w) (hr:∀f' w',M f' w'→CW P y Q n f' ds w'):CW P (.seq x y) Q n f ds w:=
 CW.seq (h.mono fun e f' ds' w' hq=>by
  cases e with
  | normal=>
   obtain⟨rfl,hM⟩:=hq
   exact hr _ _ hM
  | exit id=>exact hq
  | goto id=>exact hq
  | ret=>exact hq
  | panic ch=>exact hq
  | outgrown=>exact hq)
end
theorem push_g (x:Std) (t:WS):(push x t).g=t.g:=by unfold push;split <;> rfl
theorem push_m (x:Std) (t:WS):(push x t).m=t.m:=by unfold push;split <;> rfl
section
variable{S:List Nat}{A X W R D LL LM:OL}{a b c:Nat×Obj}{w0 w:World}
end
section
variable{bw br N:Nat}{rm:Rm}{s:AS}
end
def Stk (T E:TypeId) (sz bt:Nat) (l:List (List Value)) (W:(List (Nat×Obj))):Prop:=
 (∀c∈l,c.length=sz∧Cells1 c)∧∃v LS,W=(bt,blk T [v])::LS∧OwnSl E sz v l.length l.reverse.flatten LS
theorem flat_len{sz:Nat}:∀{l:List (List Value)},(∀c∈l,c.length=sz)→l.flatten.length=l.length*sz
 | [],_=>by simp
 | c::l,h=>by
  rw[flatten_cons,length_append,h c (by simp),flat_len (fun d hd=>h d (by simp[hd])),length_cons,Nat.add_mul];omega
theorem OwnSl.cutEnd{E:TypeId}{sz b k cap:Nat}{xs ys:List Value}{Lv:OL} (h:OwnSl E sz (.slice (some ⟨b,0,none⟩) (k+1) cap) (k+1) (xs++ys) Lv) (hx:xs.length=k*sz):OwnSl E sz (.slice (some ⟨b,0,none⟩) k cap) k xs Lv:=by
 obtain⟨h1,⟨h2,h3,h4⟩ | ⟨b',cap',more,h2,h3,h4⟩⟩:=h
 ·cases h2
 ·cases h2
  exact⟨hx,.inr ⟨b,cap,ys++more,rfl,by rw[←append_assoc];exact h3,by rw[←append_assoc];exact h4⟩⟩
theorem OwnSl.someK{E:TypeId}{sz k:Nat}{v:Value}{xs:List Value}{Lv:OL} (h:OwnSl E sz v (k+1) xs Lv):∃b cap more,v=.slice (some ⟨b,0,none⟩) (k+1) cap∧Lv=[(b,blk E (xs++more))]∧(xs++more).length=cap*sz:=by
 obtain⟨h1,⟨h2,h3,h4⟩ | h2⟩:=h
 ·cases h3
 ·exact h2
section
variable{bt:Nat}{l:List (List Value)}{c:List Value}{W:OL}{w0:World}
set_option maxHeartbeats 4000000 in
theorem pushstanding_spec (hS:Stk 209 212 34 bt l W) (hc:c.length=34) (hc1:Cells1 c) (hl:l.length<1000000000) (hw:Lives W w0) :
  CP 116 #[pt bt,.agg c.toArray] w0 fun e w'=>∃W',e=.returned (.tuple #[])∧Stk 209 212 34 bt (c::l) W'∧Step (W.map (·.1)) W' w0 w':=by
 obtain⟨hall,v,LS,rfl,hv⟩:=hS
 have hs:Step _ ((bt,blk 209 [v])::LS) w0 w0:=hw
 have ob:=hv.form
 obtain⟨va,vc,rfl⟩:=ob
 refine calls (n:=14) Tryz.func116 rfl rfl rfl ?_
 refine sr<|WL.box (cs:=c) rfl rfl rfl hs (fun b3 w hs=>?_)
 refine wZ<|CW.any (A:=fun w=>Step (List.map (·.1) ((bt,blk 209 [.slice va l.length vc])::LS)) [(b3,blk 212 c)] w0 w) (C:=fun w=>Step (List.map (·.1) ((bt,blk 209 [.slice va l.length vc])::LS)) [(b3,blk 212 c),(bt,blk 209 [.slice va l.length vc])] w0 w) 10 11 mixedP rfl ?_
 replace hs:=hs.drew
 refine aM 0 rfl<|aM 1 rfl<|aN 2 rfl rfl<|aF 3 rfl 0 u209 rfl ty207 rfl<|aL 4 rfl ty207 rfl (fun w hs=>hs.c1 rfl)<|aV 5 rfl (fun w hs=>run_loadN ty212 rfl hc hs.a0)<|AL.one 6 (by kernel_rfl) rfl (by exact Step.dropR (L1:=[(b3,_)]) hs) (by exact Step.dropR (L1:=[_,_]) hs) ?_
 refine WL.buildSlice (cs:=c) u207 ty212 rfl (by decide) rfl (filled1 hc rfl) rfl hs (fun b10 w hs=>?_)
 have hsl10:Sl w 34 (.slice (some ⟨b10,0,none⟩) 1 1) 1 c:=.own1 hs (by rw[hc])
 replace hs:=Step.append_comm (L1:=[_,_,_]) hs
 refine wZ<|⟨rfl,?_⟩
 refine AL.one 7 (by kernel_rfl) rfl (by exact Step.dropR (L1:=[(b3,_)]) (hs.dropL (L1:=LS)).tail) (by exact Step.dropR (L1:=[_,_]) (hs.dropL (L1:=LS)).tail) ?_
 refine WL.append u207 u207 ty212 rfl (by decide) rfl rfl (hv) (hs) (hsl10) (hc1) (by omega) rfl (fun v11 Lv11 w hv11 hs=>?_)
 replace hs:=Step.tail (Step.append_comm (L2:=[_,_,_]) hs)
 refine wZ<|⟨rfl,?_⟩
 refine AL.valA 8 rfl (by kernel_rfl) rfl (fun w hs=>run_nilCheck rfl) ?_
 refine aF 9 rfl 0 u209 rfl ty207 rfl<|AL.one 10 (by kernel_rfl) rfl (by exact Step.dropR (L1:=[(b3,_)]) hs) (by exact Step.dropR (L1:=[_,_]) hs) ?_
 refine ws1 ty207 rfl rfl (hv11.one) (hs.swap) (fun w hs=>?_)
 refine wZ<|⟨rfl,?_⟩
 refine AL.relax (by kernel_rfl) ?_
 refine AL.end (by kernel_rfl) (by exact Step.dropR (L1:=[(b3,_)]) hs.tail) (trivial) ?_
 refine fin_end0 rfl ?_
 refine⟨_,rfl,⟨fun d hd=>?_,v11,Lv11,rfl,?_⟩,hs.swap.tail⟩
 ·rcases mem_cons.1 hd with rfl | hd
  ·exact⟨hc,hc1⟩
  ·exact hall d hd
 ·rw[reverse_cons,flatten_append,flatten_singleton];exact hv11
set_option maxHeartbeats 4000000 in
theorem popstanding_nil (hS:Stk 209 212 34 bt [] W) (hw:Lives W w0) :
  CP 117 #[pt bt] w0 fun e w'=>∃z,e=.returned (.tuple #[.agg z.toArray,.bool false])∧z.length=34∧Cells1 z∧Step [] [] w0 w':=by
 obtain⟨hall,v,LS,rfl,hv⟩:=hS
 have ob:=hv.form
 obtain⟨va,vc,rfl⟩:=ob
 have hb:w0.heap[bt]?=some (blk 209 [.slice va 0 vc]):=hw.has (bt,blk 209 [.slice va 0 vc]) (by simp)
 have hat:At w0 bt 0 [.slice va 0 vc]:=At.of_blk hb
 have hs:Step [] [] w0 w0:=Step.refl w0
 refine calls (n:=39) Tryz.func117 rfl rfl rfl ?_
 refine sr<|WL.alloc ty212 rfl hs (fun b2 w hs=>?_)
 refine wA<|wZ<|sr<|WL.alloc ty212 rfl hs (fun b4 w hs=>?_)
 refine wZ<|cq<|sr<|wm<|wn rfl<|wF 0 u209 rfl ty207 rfl<|wl ty207 rfl ((hat.step hs.clear (by simp)).cell (j:=0) rfl)<|wL u207 rfl<|wV (run_bT (run_eql rfl rfl) (by rfl))<|wZ<|CW.cond rfl (fun h=>?_) (fun h=>?_)
 ·refine sr<|wR ty212 rfl (by rfl) hs.a0<|WL.storeAll_1 ty212 rfl rfl (by rfl) (by exact Cells1.of_all rfl) hs (by rfl) (fun w hs=>?_)
  refine wA<|wZ<|CW.ret ?_
  refine fin_cellTmp rfl rfl (run_loadVarN ty212 (by rfl) hs.a1) ?_
  exact⟨_,rfl,by rfl,Cells1.of_all rfl,hs.clear⟩
 ·cases h
set_option maxHeartbeats 4000000 in
theorem popstanding_spec (hS:Stk 209 212 34 bt (c::l) W) (hl:l.length<1000000000) (hw:Lives W w0) :
  CP 117 #[pt bt] w0 fun e w'=>∃W',e=.returned (.tuple #[.agg c.toArray,.bool true])∧Stk 209 212 34 bt l W'∧Step (W.map (·.1)) W' w0 w':=by
 obtain⟨hall,v,LS,rfl,hv⟩:=hS
 have hc:=hall c (by simp)
 have hcl:c.length=34:=hc.1
 have hl':∀d∈l,d.length=34:=fun d hd=>(hall d (by simp[hd])).1
 have hfl:=flat_len (l:=l.reverse) (fun d hd=>hl' d (by simpa using hd))
 rw[length_reverse] at hfl
 rw[length_cons,reverse_cons,flatten_append,flatten_singleton] at hv
 have ob:=hv.someK
 obtain⟨b,cap,more,rfl,rfl,hcap⟩:=ob
 have hcap2:l.length+1≤cap:=by
  rw[length_append,length_append,hfl,hc.1] at hcap
  omega
 have hs:Step [bt,b] ((bt,blk 209 [.slice (some ⟨b,0,none⟩) (l.length+1) cap])::(b,blk 212 (l.reverse.flatten++c++more))::[]) w0 w0:=hw
 have hrow:∀{X:OL}{w:World},Step [bt,b] X w0 w→(b,blk 212 (l.reverse.flatten++c++more))∈X→At w b (0+l.length*34) c:=fun h hm=>by
  have h1:=(At.of_blk (h.has _ hm)).left.right
  rw[hfl] at h1;exact h1
 refine calls (n:=39) Tryz.func117 rfl rfl rfl ?_
 refine sr<|WL.alloc ty212 rfl hs (fun b2 w hs=>?_)
 refine wA<|wZ<|sr<|WL.alloc ty212 rfl hs (fun b4 w hs=>?_)
 refine wZ<|cq<|sr<|wm<|wn rfl<|wF 0 u209 rfl ty207 rfl<|wl ty207 rfl (hs.c2 (v:=.slice (some ⟨b,0,none⟩) (l.length+1) cap) rfl)<|wL u207 rfl<|eF<|wZ<|CW.cond rfl (fun h=>?_) (fun h=>?_)
 ·cases h
 refine ck<|cq<|CW.quietT (l1:=[_,_,_,_,_,_,_,_,_,_,_,_]) (l2:=[_]) 12 rfl mixedP rfl (by kernel_rfl) hs ?_
 refine qm<|qn rfl<|qF 0 u209 rfl ty207 rfl<|qL ty207 rfl (fun w hs=>hs.c2 (v:=.slice (some ⟨b,0,none⟩) (l.length+1) cap) rfl)<|qm<|qn rfl<|qF 0 u209 rfl ty207 rfl<|qL ty207 rfl (fun w hs=>hs.c2 (v:=.slice (some ⟨b,0,none⟩) (l.length+1) cap) rfl)<|qV (fun w hs=>run_lenSl u207 rfl)<|qV (fun w hs=>run_sub (c:=((l.length:Nat):Int)) rfl rfl (by omega) (by omega))<|qI u207 ty212 rfl rfl<|qV (fun w hs=>run_loadN ty212 rfl hc.1 (hrow hs (by simp)))<|QL.nil (fun w hs=>?_)
 refine WL.storeAll ty212 rfl rfl ((hc.1)) ((hc.2)) hs (by rfl) (fun w hs=>?_)
 refine wZ<|cq<|CW.quietT (l1:=[_,_,_,_,_,_,_,_,_,_,_,_,_,_]) (l2:=[_]) 14 rfl mixedP rfl (by kernel_rfl) hs ?_
 refine qm<|qm<|qn rfl<|qF 0 u209 rfl ty207 rfl<|qL ty207 rfl (fun w hs=>hs.c2 (v:=.slice (some ⟨b,0,none⟩) (l.length+1) cap) rfl)<|qm<|qn rfl<|qF 0 u209 rfl ty207 rfl<|qL ty207 rfl (fun w hs=>hs.c2 (v:=.slice (some ⟨b,0,none⟩) (l.length+1) cap) rfl)<|qV (fun w hs=>run_lenSl u207 rfl)<|qV (fun w hs=>run_sub (c:=((l.length:Nat):Int)) rfl rfl (by omega) (by omega))<|qV (fun w hs=>run_sliceSl0  u207 ty212 rfl rfl rfl (by simp) (by omega) (by omega))<|qn rfl<|qF 0 u209 rfl ty207 rfl ?_
 refine QL.nil (fun w hs=>?_)
 refine WL.store1_2 ty207 rfl rfl (rfl) hs (by first | (simp;done) | omega | (simp only[length_append,length_replicate,length_cons,length_nil,length_set];omega) | (simp[Ent.cells,u8s];done) | exact Nat.le_of_ble_eq_true rfl) (fun w hs=>?_)
 refine wZ<|sr<|wR ty212 rfl hc.1 hs.a0<|WL.storeAll_1 ty212 rfl rfl ((hc.1)) ((hc.2)) hs (by rfl) (fun w hs=>?_)
 refine wA<|wZ<|CW.ret ?_
 refine fin_cellTmp rfl rfl (run_loadVarN ty212 (by assumption) hs.a1) ?_
 exact⟨_,rfl,⟨fun d hd=>hall d (by simp[hd]),_,_,rfl,OwnSl.cutEnd hv hfl⟩,hs.tail.tail⟩
end
section
variable{bt:Nat}{l:List (List Value)}{c:List Value}{W:OL}{w0:World}
set_option maxHeartbeats 4000000 in
theorem pushplace_spec (hS:Stk 217 220 33 bt l W) (hc:c.length=33) (hc1:Cells1 c) (hl:l.length<1000000000) (hw:Lives W w0) :
  CP 118 #[pt bt,.agg c.toArray] w0 fun e w'=>∃W',e=.returned (.tuple #[])∧Stk 217 220 33 bt (c::l) W'∧Step (W.map (·.1)) W' w0 w':=by
 obtain⟨hall,v,LS,rfl,hv⟩:=hS
 have hs:Step _ ((bt,blk 217 [v])::LS) w0 w0:=hw
 have ob:=hv.form
 obtain⟨va,vc,rfl⟩:=ob
 refine calls (n:=14) Tryz.func118 rfl rfl rfl ?_
 refine sr<|WL.box (cs:=c) rfl rfl rfl hs (fun b3 w hs=>?_)
 refine wZ<|CW.any (A:=fun w=>Step (List.map (·.1) ((bt,blk 217 [.slice va l.length vc])::LS)) [(b3,blk 220 c)] w0 w) (C:=fun w=>Step (List.map (·.1) ((bt,blk 217 [.slice va l.length vc])::LS)) [(b3,blk 220 c),(bt,blk 217 [.slice va l.length vc])] w0 w) 10 11 mixedP rfl ?_
 replace hs:=hs.drew
 refine aM 0 rfl<|aM 1 rfl<|aN 2 rfl rfl<|aF 3 rfl 0 u217 rfl ty215 rfl<|aL 4 rfl ty215 rfl (fun w hs=>hs.c1 rfl)<|aV 5 rfl (fun w hs=>run_loadN ty220 rfl hc hs.a0)<|AL.one 6 (by kernel_rfl) rfl (by exact Step.dropR (L1:=[(b3,_)]) hs) (by exact Step.dropR (L1:=[_,_]) hs) ?_
 refine WL.buildSlice (cs:=c) u215 ty220 rfl (by decide) rfl (filled1 hc rfl) rfl hs (fun b10 w hs=>?_)
 have hsl10:Sl w 33 (.slice (some ⟨b10,0,none⟩) 1 1) 1 c:=.own1 hs (by rw[hc])
 replace hs:=Step.append_comm (L1:=[_,_,_]) hs
 refine wZ<|⟨rfl,?_⟩
 refine AL.one 7 (by kernel_rfl) rfl (by exact Step.dropR (L1:=[(b3,_)]) (hs.dropL (L1:=LS)).tail) (by exact Step.dropR (L1:=[_,_]) (hs.dropL (L1:=LS)).tail) ?_
 refine WL.append u215 u215 ty220 rfl (by decide) rfl rfl (hv) (hs) (hsl10) (hc1) (by omega) rfl (fun v11 Lv11 w hv11 hs=>?_)
 replace hs:=Step.tail (Step.append_comm (L2:=[_,_,_]) hs)
 refine wZ<|⟨rfl,?_⟩
 refine AL.valA 8 rfl (by kernel_rfl) rfl (fun w hs=>run_nilCheck rfl) ?_
 refine aF 9 rfl 0 u217 rfl ty215 rfl<|AL.one 10 (by kernel_rfl) rfl (by exact Step.dropR (L1:=[(b3,_)]) hs) (by exact Step.dropR (L1:=[_,_]) hs) ?_
 refine ws1 ty215 rfl rfl (hv11.one) (hs.swap) (fun w hs=>?_)
 refine wZ<|⟨rfl,?_⟩
 refine AL.relax (by kernel_rfl) ?_
 refine AL.end (by kernel_rfl) (by exact Step.dropR (L1:=[(b3,_)]) hs.tail) (trivial) ?_
 refine fin_end0 rfl ?_
 refine⟨_,rfl,⟨fun d hd=>?_,v11,Lv11,rfl,?_⟩,hs.swap.tail⟩
 ·rcases mem_cons.1 hd with rfl | hd
  ·exact⟨hc,hc1⟩
  ·exact hall d hd
 ·rw[reverse_cons,flatten_append,flatten_singleton];exact hv11
set_option maxHeartbeats 4000000 in
theorem popplace_nil (hS:Stk 217 220 33 bt [] W) (hw:Lives W w0) :
  CP 119 #[pt bt] w0 fun e w'=>∃z,e=.returned (.tuple #[.agg z.toArray,.bool false])∧z.length=33∧Cells1 z∧Step [] [] w0 w':=by
 obtain⟨hall,v,LS,rfl,hv⟩:=hS
 have ob:=hv.form
 obtain⟨va,vc,rfl⟩:=ob
 have hb:w0.heap[bt]?=some (blk 217 [.slice va 0 vc]):=hw.has (bt,blk 217 [.slice va 0 vc]) (by simp)
 have hat:At w0 bt 0 [.slice va 0 vc]:=At.of_blk hb
 have hs:Step [] [] w0 w0:=Step.refl w0
 refine calls (n:=39) Tryz.func119 rfl rfl rfl ?_
 refine sr<|WL.alloc ty220 rfl hs (fun b2 w hs=>?_)
 refine wA<|wZ<|sr<|WL.alloc ty220 rfl hs (fun b4 w hs=>?_)
 refine wZ<|cq<|sr<|wm<|wn rfl<|wF 0 u217 rfl ty215 rfl<|wl ty215 rfl ((hat.step hs.clear (by simp)).cell (j:=0) rfl)<|wL u215 rfl<|wV (run_bT (run_eql rfl rfl) (by rfl))<|wZ<|CW.cond rfl (fun h=>?_) (fun h=>?_)
 ·refine sr<|wR ty220 rfl (by rfl) hs.a0<|WL.storeAll_1 ty220 rfl rfl (by rfl) (by exact Cells1.of_all rfl) hs (by rfl) (fun w hs=>?_)
  refine wA<|wZ<|CW.ret ?_
  refine fin_cellTmp rfl rfl (run_loadVarN ty220 (by rfl) hs.a1) ?_
  exact⟨_,rfl,by rfl,Cells1.of_all rfl,hs.clear⟩
 ·cases h
set_option maxHeartbeats 4000000 in
theorem popplace_spec (hS:Stk 217 220 33 bt (c::l) W) (hl:l.length<1000000000) (hw:Lives W w0) :
  CP 119 #[pt bt] w0 fun e w'=>∃W',e=.returned (.tuple #[.agg c.toArray,.bool true])∧Stk 217 220 33 bt l W'∧Step (W.map (·.1)) W' w0 w':=by
 obtain⟨hall,v,LS,rfl,hv⟩:=hS
 have hc:=hall c (by simp)
 have hcl:c.length=33:=hc.1
 have hl':∀d∈l,d.length=33:=fun d hd=>(hall d (by simp[hd])).1
 have hfl:=flat_len (l:=l.reverse) (fun d hd=>hl' d (by simpa using hd))
 rw[length_reverse] at hfl
 rw[length_cons,reverse_cons,flatten_append,flatten_singleton] at hv
 have ob:=hv.someK
 obtain⟨b,cap,more,rfl,rfl,hcap⟩:=ob
 have hcap2:l.length+1≤cap:=by
  rw[length_append,length_append,hfl,hc.1] at hcap
  omega
 have hs:Step [bt,b] ((bt,blk 217 [.slice (some ⟨b,0,none⟩) (l.length+1) cap])::(b,blk 220 (l.reverse.flatten++c++more))::[]) w0 w0:=hw
 have hrow:∀{X:OL}{w:World},Step [bt,b] X w0 w→(b,blk 220 (l.reverse.flatten++c++more))∈X→At w b (0+l.length*33) c:=fun h hm=>by
  have h1:=(At.of_blk (h.has _ hm)).left.right
  rw[hfl] at h1;exact h1
 refine calls (n:=39) Tryz.func119 rfl rfl rfl ?_
 refine sr<|WL.alloc ty220 rfl hs (fun b2 w hs=>?_)
 refine wA<|wZ<|sr<|WL.alloc ty220 rfl hs (fun b4 w hs=>?_)
 refine wZ<|cq<|sr<|wm<|wn rfl<|wF 0 u217 rfl ty215 rfl<|wl ty215 rfl (hs.c2 (v:=.slice (some ⟨b,0,none⟩) (l.length+1) cap) rfl)<|wL u215 rfl<|eF<|wZ<|CW.cond rfl (fun h=>?_) (fun h=>?_)
 ·cases h
 refine ck<|cq<|CW.quietT (l1:=[_,_,_,_,_,_,_,_,_,_,_,_]) (l2:=[_]) 12 rfl mixedP rfl (by kernel_rfl) hs ?_
 refine qm<|qn rfl<|qF 0 u217 rfl ty215 rfl<|qL ty215 rfl (fun w hs=>hs.c2 (v:=.slice (some ⟨b,0,none⟩) (l.length+1) cap) rfl)<|qm<|qn rfl<|qF 0 u217 rfl ty215 rfl<|qL ty215 rfl (fun w hs=>hs.c2 (v:=.slice (some ⟨b,0,none⟩) (l.length+1) cap) rfl)<|qV (fun w hs=>run_lenSl u215 rfl)<|qV (fun w hs=>run_sub (c:=((l.length:Nat):Int)) rfl rfl (by omega) (by omega))<|qI u215 ty220 rfl rfl<|qV (fun w hs=>run_loadN ty220 rfl hc.1 (hrow hs (by simp)))<|QL.nil (fun w hs=>?_)
 refine WL.storeAll ty220 rfl rfl ((hc.1)) ((hc.2)) hs (by rfl) (fun w hs=>?_)
 refine wZ<|cq<|CW.quietT (l1:=[_,_,_,_,_,_,_,_,_,_,_,_,_,_]) (l2:=[_]) 14 rfl mixedP rfl (by kernel_rfl) hs ?_
 refine qm<|qm<|qn rfl<|qF 0 u217 rfl ty215 rfl<|qL ty215 rfl (fun w hs=>hs.c2 (v:=.slice (some ⟨b,0,none⟩) (l.length+1) cap) rfl)<|qm<|qn rfl<|qF 0 u217 rfl ty215 rfl<|qL ty215 rfl (fun w hs=>hs.c2 (v:=.slice (some ⟨b,0,none⟩) (l.length+1) cap) rfl)<|qV (fun w hs=>run_lenSl u215 rfl)<|qV (fun w hs=>run_sub (c:=((l.length:Nat):Int)) rfl rfl (by omega) (by omega))<|qV (fun w hs=>run_sliceSl0  u215 ty220 rfl rfl rfl (by simp) (by omega) (by omega))<|qn rfl<|qF 0 u217 rfl ty215 rfl ?_
 refine QL.nil (fun w hs=>?_)
 refine WL.store1_2 ty215 rfl rfl (rfl) hs (by first | (simp;done) | omega | (simp only[length_append,length_replicate,length_cons,length_nil,length_set];omega) | (simp[Ent.cells,u8s];done) | exact Nat.le_of_ble_eq_true rfl) (fun w hs=>?_)
 refine wZ<|sr<|wR ty220 rfl hc.1 hs.a0<|WL.storeAll_1 ty220 rfl rfl ((hc.1)) ((hc.2)) hs (by rfl) (fun w hs=>?_)
 refine wA<|wZ<|CW.ret ?_
 refine fin_cellTmp rfl rfl (run_loadVarN ty220 (by assumption) hs.a1) ?_
 exact⟨_,rfl,⟨fun d hd=>hall d (by simp[hd]),_,_,rfl,OwnSl.cutEnd hv hfl⟩,hs.tail.tail⟩
end
end Go.Gx
