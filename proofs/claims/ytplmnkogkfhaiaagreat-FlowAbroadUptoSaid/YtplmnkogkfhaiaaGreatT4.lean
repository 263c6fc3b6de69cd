/- The Store: Plant, Get. The Store: New. A range over a map that stays as it is: any order; each entry once. No function in sight. The Store: Twin. The order of digests: sum.Less of both sides. path.IsName, node.wrong, node.Check. '==' on arrays and structs: by their literals. No program in sight. Pla -/
import Derived.Test.YtplmnkogkfhaiaaGreatT3
import Derived.Test.YtplmnkogkfhaiaaGreatT2
import Derived.Maps.RangeRun
import Derived.Lib.BytesEntry
import Derived.Lib.Bytealg
import Derived.DeepKeys
set_option linter.unusedVariables false
set_option linter.unusedSimpArgs false
set_option maxRecDepth 100000
namespace Go.Gx
open Go.Proofs List
attribute [local irreducible] shaL cutD frontL
section
variable{bs k cap used last m gets puts clock st n c:Nat}{a:Option Addr}{M:List (List UInt8×Value×Nat)}{d:U8}{b:Bool}{x y:U8}{v:Value}
theorem plant_arg (w0:World) (hb:w0.heap[bs]?=some (blk 140 (stC k cap used last m gets puts))) (hd:d.length=32) (hk1:1≤k) (hk:k≤32) (hnf:fitsL d k=false) :
  CP 35 #[pt bs,.agg (u8s d).toArray,v] w0 (Ret0 (.int .i64 1) w0):=by
 have hs:Step [] [] w0 w0:=Step.refl w0
 have hat:At w0 bs 0 (stC k cap used last m gets puts):=At.of_blk hb
 have hdl:(u8s d).length=32:=by rw[u8s,length_map,hd]
 have hfit:=fun w=>fits_spec (d:=d) (k:=k) hd w
 simp only[hnf] at hfit
 refine calls (n:=23) Tryz.func35 rfl rfl rfl ?_
 refine sr<|WL.box (cs:=u8s d) rfl rfl rfl hs (fun b4 w hs=>?_)
 refine wA<|wZ<|cq<|cB<|cq<|CW.quiet mixedP (by kernel_rfl) hs ?_
 refine qV (fun w hs=>run_loadN ty44 rfl hdl hs.a0)<|qm<|qn rfl<|qF 0 u140 rfl ty3 rfl<|qL ty3 rfl (fun w hs=>(hat.step hs.clear (by simp)).cell (j:=0) rfl)<|QL.enter rfl (fun w=>run_call en89 rfl rfl) (fun w hs=>hfit _) ?_
 refine qV (fun w hs=>run_not rfl)<|qA<|QL.nil (fun w hs=>?_)
 refine CW.cond rfl (fun h=>?_) (fun h=>?_)
 ·refine sr<|wA<|wZ<|CW.ret ?_
  refine fin_ret1 rfl ?_
  exact⟨rfl,hs.clear⟩
 ·cases h
theorem plant_long (hne:bs≠m) (w0:World) (hb:w0.heap[bs]?=some (blk 140 (stC k cap used last m gets puts))) (hm:w0.heap[m]?=some (mapObj M clock)) (hd:d.length=32) (hf:fitsL d k=true) (hy:Sl w0 1 v y.length (u8s y)) (hsy:y.length<1099511627776) (hlong:1048576<y.length) :
  CP 35 #[pt bs,.agg (u8s d).toArray,v] w0 (Ret0 (.int .i64 2) w0):=by
 have hs0:Step [] [] w0 w0:=Step.refl w0
 have hat:At w0 bs 0 (stC k cap used last m gets puts):=At.of_blk hb
 have hs:=hs0
 have hdl:(u8s d).length=32:=by rw[u8s,length_map,hd]
 have hfit:=fun w=>fits_spec (d:=d) (k:=k) hd w
 simp only[hf] at hfit
 have ob:=Sl.form hy
 obtain⟨av,cv,rfl⟩:=ob
 refine calls (n:=23) Tryz.func35 rfl rfl rfl ?_
 refine sr<|WL.box (cs:=u8s d) rfl rfl rfl hs (fun b4 w hs=>?_)
 refine wA<|wZ<|cq<|cB<|cq<|CW.quiet mixedP (by kernel_rfl) hs ?_
 refine qV (fun w hs=>run_loadN ty44 rfl hdl hs.a0)<|qm<|qn rfl<|qF 0 u140 rfl ty3 rfl<|qL ty3 rfl (fun w hs=>(hat.step hs.clear (by simp)).cell (j:=0) rfl)<|QL.enter rfl (fun w=>run_call en89 rfl rfl) (fun w hs=>hfit _) ?_
 refine qV (fun w hs=>run_not rfl)<|qA<|QL.nil (fun w hs=>?_)
 refine CW.cond rfl (fun h=>?_) (fun h=>?_)
 ·cases h
 refine sr<|wm<|wL u76 rfl<|xT<|wA<|wZ<|CW.cond rfl (fun h=>?_) (fun h=>?_)
 ·refine sr<|wA<|wZ<|CW.ret ?_
  refine fin_ret1 rfl ?_
  exact⟨rfl,hs.clear⟩
 ·cases h
theorem plant_full{x:U8} (hne:bs≠m) (w0:World) (hb:w0.heap[bs]?=some (blk 140 (stC k cap used last m gets puts))) (hm:w0.heap[m]?=some (mapObj M clock)) (hd:d.length=32) (hf:fitsL d k=true)
  (hM:Keys32 M) (hu:((findD d M 0).map (·.2)).getD zB=.agg #[.slice a n c,.int .i64 st]) (hb':(findD d M 0).isSome=b) (hy:Sl w0 1 v y.length (u8s y)) (hO:OutE v y [bs,m]) (hsy:y.length<1099511627776) (hshort:y.length≤1048576)
  (hsx:n<1099511627776) (hus:used<1099511627776) (hou:b=true→n+32≤used) (hf1:b=true→cap<used+(y.length+32) - (n+32)) (hf0:b=false→cap<used+(y.length+32)) :
  CP 35 #[pt bs,.agg (u8s d).toArray,v] w0 (fun e w'=>e=.returned (.int .i64 43)∧Step [bs,m] [(bs,blk 140 (stC k cap used last m gets puts)),(m,mapObj M clock)] w0 w'):=by
 have hs:Step [bs,m] [(bs,blk 140 (stC k cap used last m gets puts)),(m,mapObj M clock)] w0 w0:=Step.start (L:=[(bs,blk 140 (stC k cap used last m gets puts)),(m,mapObj M clock)]) (by simpa using hne) (by intro p hp;simp at hp;rcases hp with rfl | rfl;exact hb;exact hm)
 have hdl:(u8s d).length=32:=by rw[u8s,length_map,hd]
 have hfit:=fun w=>fits_spec (d:=d) (k:=k) hd w
 simp only[hf] at hfit
 have ob:=Sl.form hy
 obtain⟨av,cv,rfl⟩:=ob
 refine calls (n:=23) Tryz.func35 rfl rfl rfl ?_
 refine sr<|WL.box (cs:=u8s d) rfl rfl rfl hs (fun b4 w hs=>?_)
 refine wA<|wZ<|cq<|cB<|cq<|CW.quiet mixedP (by kernel_rfl) hs ?_
 refine qV (fun w hs=>run_loadN ty44 rfl hdl hs.a0)<|qm<|qn rfl<|qF 0 u140 rfl ty3 rfl<|qL ty3 rfl (fun w hs=>hs.c1 (v:=.int .i64 (k:Nat)) rfl)<|QL.enter rfl (fun w=>run_call en89 rfl rfl) (fun w hs=>hfit _) ?_
 refine qV (fun w hs=>run_not rfl)<|qA<|QL.nil (fun w hs=>?_)
 refine CW.cond rfl (fun h=>?_) (fun h=>?_)
 ·cases h
 refine sr<|wm<|wL u76 rfl<|xF<|wA<|wZ<|CW.cond rfl (fun h=>?_) (fun h=>?_)
 ·cases h
 refine ck<|sr<|wm<|wR ty44 rfl hdl hs.a0<|wm<|wE rfl (run_call en90 rfl rfl) (lay_full hne _ (hs.get (o:=blk 140 (stC k cap used last m gets puts)) (by simp)) (hs.get (o:=mapObj M clock) (by simp)) hM hd hu hb' (hy.stepE hs hO) hsy hsx hus hou hf1 hf0) ?_
 rintro e w ⟨rfl,hq⟩
 refine⟨_,rfl,?_⟩
 replace hs:=hs.callE hq
 refine wA<|wZ<|CW.ret ?_
 refine fin_ret1 rfl ?_
 exact⟨rfl,hs.tail⟩
theorem plant_ok{x:U8} (hne:bs≠m) (w0:World) (hb:w0.heap[bs]?=some (blk 140 (stC k cap used last m gets puts))) (hm:w0.heap[m]?=some (mapObj M clock)) (hd:d.length=32) (hf:fitsL d k=true)
  (hM:Keys32 M) (hu:((findD d M 0).map (·.2)).getD zB=.agg #[.slice a n c,.int .i64 st]) (hb':(findD d M 0).isSome=b) (hy:Sl w0 1 v y.length (u8s y)) (hO:OutE v y [bs,m]) (hsy:y.length<1099511627776) (hshort:y.length≤1048576)
  (hsx:n<1099511627776) (hus:used<1099511627776) (hlast:last<1099511627776) (hou:b=true→n+32≤used){used':Nat} (hf1:b=true→used'=used+(y.length+32) - (n+32)) (hf0:b=false→used'=used+(y.length+32)) (hcap:used'≤cap) :
  CP 35 #[pt bs,.agg (u8s d).toArray,v] w0 (fun e w'=>∃v' Lv,e=.returned (.int .i64 0)∧OwnSl 5 1 v' y.length (u8s y) Lv∧
   Step [bs,m] ((bs,blk 140 (stC k cap used' (last+1) m gets puts))::(m,mapObj (putM d (.agg #[v',.int .i64 (last+1:Nat)]) clock M) (putC d clock M))::Lv) w0 w'):=by
 have hs:Step [bs,m] [(bs,blk 140 (stC k cap used last m gets puts)),(m,mapObj M clock)] w0 w0:=Step.start (L:=[(bs,blk 140 (stC k cap used last m gets puts)),(m,mapObj M clock)]) (by simpa using hne) (by intro p hp;simp at hp;rcases hp with rfl | rfl;exact hb;exact hm)
 have hdl:(u8s d).length=32:=by rw[u8s,length_map,hd]
 have hfit:=fun w=>fits_spec (d:=d) (k:=k) hd w
 simp only[hf] at hfit
 have ob:=Sl.form hy
 obtain⟨av,cv,rfl⟩:=ob
 refine calls (n:=23) Tryz.func35 rfl rfl rfl ?_
 refine sr<|WL.box (cs:=u8s d) rfl rfl rfl hs (fun b4 w hs=>?_)
 refine wA<|wZ<|cq<|cB<|cq<|CW.quiet mixedP (by kernel_rfl) hs ?_
 refine qV (fun w hs=>run_loadN ty44 rfl hdl hs.a0)<|qm<|qn rfl<|qF 0 u140 rfl ty3 rfl<|qL ty3 rfl (fun w hs=>hs.c1 (v:=.int .i64 (k:Nat)) rfl)<|QL.enter rfl (fun w=>run_call en89 rfl rfl) (fun w hs=>hfit _) ?_
 refine qV (fun w hs=>run_not rfl)<|qA<|QL.nil (fun w hs=>?_)
 refine CW.cond rfl (fun h=>?_) (fun h=>?_)
 ·cases h
 refine sr<|wm<|wL u76 rfl<|xF<|wA<|wZ<|CW.cond rfl (fun h=>?_) (fun h=>?_)
 ·cases h
 refine ck<|sr<|wm<|wR ty44 rfl hdl hs.a0<|wm<|wE rfl (run_call en90 rfl rfl) (lay_ok hne _ (hs.get (o:=blk 140 (stC k cap used last m gets puts)) (by simp)) (hs.get (o:=mapObj M clock) (by simp)) hM hd hu hb' (hy.stepE hs hO) hO hsy hsx hus hlast hou hf1 hf0 hcap) ?_
 rintro e w ⟨v',Lv,rfl,hu',hq⟩
 refine⟨_,rfl,?_⟩
 replace hs:=Step.append_comm (L1:=_::_::Lv) (L2:=[_]) (Step.call (L1:=[_,_]) (hs.perm (perm_append_comm (l₁:=[_]) (l₂:=[_,_]))) hq)
 refine wA<|wZ<|CW.ret ?_
 refine fin_ret1 rfl ?_
 exact⟨v',Lv,rfl,hu',hs.tail⟩
theorem get_missing (hne:bs≠m) (w0:World) (hb:w0.heap[bs]?=some (blk 140 (stC k cap used last m gets puts))) (hm:w0.heap[m]?=some (mapObj M clock)) (hd:d.length=32) (hg:gets<1099511627776)
  (hM:Keys32 M) (hf:findD d M 0=none) :
  CP 76 #[pt bs,.agg (u8s d).toArray] w0 (fun e w'=>e=.returned (.tuple #[.slice none 0 0,.int .i64 41])∧Step [bs,m] [(bs,blk 140 (stC k cap used last m (gets+1) puts)),(m,mapObj M clock)] w0 w'):=by
 have hu:((findD d M 0).map (·.2)).getD zB=.agg #[.slice none 0 0,.int .i64 (0:Nat)]:=by rw[hf];rfl
 have hb':(findD d M 0).isSome=false:=by rw[hf];rfl
 have hs:Step [bs,m] [(bs,blk 140 (stC k cap used last m gets puts)),(m,mapObj M clock)] w0 w0:=Step.start (L:=[(bs,blk 140 (stC k cap used last m gets puts)),(m,mapObj M clock)]) (by simpa using hne) (by intro p hp;simp at hp;rcases hp with rfl | rfl;exact hb;exact hm)
 have hdl:(u8s d).length=32:=by rw[u8s,length_map,hd]
 refine calls (n:=34) Tryz.func76 rfl rfl rfl ?_
 refine sr<|WL.box (cs:=u8s d) rfl rfl rfl hs (fun b3 w hs=>?_)
 refine wA<|wA<|wZ<|sr<|wm<|wn rfl<|wF 5 u140 rfl ty50 rfl<|wF 0 u50 rfl ty3 rfl<|wl ty3 rfl (hs.c1 (v:=.int .i64 (gets:Nat)) rfl)<|wP ((gets+1:Nat):Int)<|wn rfl<|wF 5 u140 rfl ty50 rfl<|wF 0 u50 rfl ty3 rfl ?_
 refine ws1 ty3 rfl rfl (rfl) (hs.swap) (fun w hs=>?_)
 refine wZ ?_
 replace hs:Step [bs,m] [(bs,blk 140 (stC k cap used last m (gets+1) puts)),(b3,blk 44 (u8s d)),(m,mapObj M clock)] w0 w:=hs
 refine cq<|cB<|sr<|wm<|wR ty44 rfl hdl hs.a1<|wE rfl (run_call en122 rfl rfl) (has_spec _ hs.hd (hs.get (o:=mapObj M clock) (by simp)) hM hd hu hb') ?_
 rintro e w ⟨rfl,hq⟩
 refine⟨_,rfl,?_⟩
 replace hs:=hs.callE hq
 refine wN rfl<|wA<|wZ<|CW.cond rfl (fun h=>?_) (fun h=>?_)
 ·refine sr<|wA<|wA<|wZ<|CW.ret ?_
  refine fin_ret2 rfl ?_
  exact⟨rfl,hs.swap.tail⟩
 ·cases h
theorem get_corrupt{x:U8} (hne:bs≠m) (w0:World) (hb:w0.heap[bs]?=some (blk 140 (stC k cap used last m gets puts))) (hm:w0.heap[m]?=some (mapObj M clock)) (hd:d.length=32) (hg:gets<1099511627776)
  (hM:Keys32 M) (hu:((findD d M 0).map (·.2)).getD zB=.agg #[.slice a x.length c,.int .i64 st]) (hb':(findD d M 0).isSome=true) (hx:Sl w0 1 (.slice a x.length c) x.length (u8s x)) (hxO:Outside (.slice a x.length c) [bs,m]) (hxr:Room (.slice a x.length c)) (hsx:x.length<1099511627776)
  (hk1:1≤k) (hk:k≤32) (hbad:frontL x k≠d) :
  CP 76 #[pt bs,.agg (u8s d).toArray] w0 (fun e w'=>e=.returned (.tuple #[.slice none 0 0,.int .i64 42])∧Step [bs,m] [(bs,blk 140 (stC k cap used last m (gets+1) puts)),(m,mapObj M clock)] w0 w'):=by
 have hs:Step [bs,m] [(bs,blk 140 (stC k cap used last m gets puts)),(m,mapObj M clock)] w0 w0:=Step.start (L:=[(bs,blk 140 (stC k cap used last m gets puts)),(m,mapObj M clock)]) (by simpa using hne) (by intro p hp;simp at hp;rcases hp with rfl | rfl;exact hb;exact hm)
 have hdl:(u8s d).length=32:=by rw[u8s,length_map,hd]
 refine calls (n:=34) Tryz.func76 rfl rfl rfl ?_
 refine sr<|WL.box (cs:=u8s d) rfl rfl rfl hs (fun b3 w hs=>?_)
 refine wA<|wA<|wZ<|sr<|wm<|wn rfl<|wF 5 u140 rfl ty50 rfl<|wF 0 u50 rfl ty3 rfl<|wl ty3 rfl (hs.c1 (v:=.int .i64 (gets:Nat)) rfl)<|wP ((gets+1:Nat):Int)<|wn rfl<|wF 5 u140 rfl ty50 rfl<|wF 0 u50 rfl ty3 rfl ?_
 refine ws1 ty3 rfl rfl (rfl) (hs.swap) (fun w hs=>?_)
 refine wZ ?_
 replace hs:Step [bs,m] [(bs,blk 140 (stC k cap used last m (gets+1) puts)),(b3,blk 44 (u8s d)),(m,mapObj M clock)] w0 w:=hs
 have hwh:=fun{w:World} h1 h2 h3=>whole_yes (w0:=w) (m:=m) (clock:=clock) (bs:=bs) (cap:=cap) (used:=used) (last:=last) (gets:=gets+1) (puts:=puts) h1 h2 hM hd hu hb' h3 hxr hsx hk1 hk
 simp only[decide_eq_false hbad] at hwh
 refine cq<|cB<|sr<|wm<|wR ty44 rfl hdl hs.a1<|wE rfl (run_call en122 rfl rfl) (has_spec _ hs.hd (hs.get (o:=mapObj M clock) (by simp)) hM hd hu hb') ?_
 rintro e w ⟨rfl,hq⟩
 refine⟨_,rfl,?_⟩
 replace hs:=hs.callE hq
 refine wN rfl<|wA<|wZ<|CW.cond rfl (fun h=>?_) (fun h=>?_)
 ·cases h
 refine sr<|wm<|wR ty44 rfl hdl hs.a1<|wE rfl (run_call en52 rfl rfl) (hwh hs.hd (hs.get (o:=mapObj M clock) (by simp)) (hx.step hs hxO)) ?_
 rintro e w ⟨rfl,hq⟩
 refine⟨_,rfl,?_⟩
 replace hs:=hs.callE hq
 refine wN rfl<|wA<|wZ<|CW.cond rfl (fun h=>?_) (fun h=>?_)
 ·refine sr<|wA<|wA<|wZ<|CW.ret ?_
  refine fin_ret2 rfl ?_
  exact⟨rfl,hs.swap.tail⟩
 ·cases h
theorem get_ok{x:U8} (hne:bs≠m) (w0:World) (hb:w0.heap[bs]?=some (blk 140 (stC k cap used last m gets puts))) (hm:w0.heap[m]?=some (mapObj M clock)) (hd:d.length=32) (hg:gets<1099511627776)
  (hM:Keys32 M) (hu:((findD d M 0).map (·.2)).getD zB=.agg #[.slice a x.length c,.int .i64 st]) (hb':(findD d M 0).isSome=true) (hx:Sl w0 1 (.slice a x.length c) x.length (u8s x)) (hxO:Outside (.slice a x.length c) [bs,m]) (hxr:Room (.slice a x.length c)) (hsx:x.length<1099511627776)
  (hk1:1≤k) (hk:k≤32) (hbad:frontL x k=d) :
  CP 76 #[pt bs,.agg (u8s d).toArray] w0 (fun e w'=>∃v' Lv,e=.returned (.tuple #[v',.int .i64 0])∧OwnSl 5 1 v' x.length (u8s x) Lv∧Step [bs,m] ((bs,blk 140 (stC k cap used last m (gets+1) puts))::(m,mapObj M clock)::Lv) w0 w'):=by
 have hs:Step [bs,m] [(bs,blk 140 (stC k cap used last m gets puts)),(m,mapObj M clock)] w0 w0:=Step.start (L:=[(bs,blk 140 (stC k cap used last m gets puts)),(m,mapObj M clock)]) (by simpa using hne) (by intro p hp;simp at hp;rcases hp with rfl | rfl;exact hb;exact hm)
 have hdl:(u8s d).length=32:=by rw[u8s,length_map,hd]
 refine calls (n:=34) Tryz.func76 rfl rfl rfl ?_
 refine sr<|WL.box (cs:=u8s d) rfl rfl rfl hs (fun b3 w hs=>?_)
 refine wA<|wA<|wZ<|sr<|wm<|wn rfl<|wF 5 u140 rfl ty50 rfl<|wF 0 u50 rfl ty3 rfl<|wl ty3 rfl (hs.c1 (v:=.int .i64 (gets:Nat)) rfl)<|wP ((gets+1:Nat):Int)<|wn rfl<|wF 5 u140 rfl ty50 rfl<|wF 0 u50 rfl ty3 rfl ?_
 refine ws1 ty3 rfl rfl (rfl) (hs.swap) (fun w hs=>?_)
 refine wZ ?_
 replace hs:Step [bs,m] [(bs,blk 140 (stC k cap used last m (gets+1) puts)),(b3,blk 44 (u8s d)),(m,mapObj M clock)] w0 w:=hs
 have hwh:=fun{w:World} h1 h2 h3=>whole_yes (w0:=w) (m:=m) (clock:=clock) (bs:=bs) (cap:=cap) (used:=used) (last:=last) (gets:=gets+1) (puts:=puts) h1 h2 hM hd hu hb' h3 hxr hsx hk1 hk
 simp only[decide_eq_true hbad] at hwh
 refine cq<|cB<|sr<|wm<|wR ty44 rfl hdl hs.a1<|wE rfl (run_call en122 rfl rfl) (has_spec _ hs.hd (hs.get (o:=mapObj M clock) (by simp)) hM hd hu hb') ?_
 rintro e w ⟨rfl,hq⟩
 refine⟨_,rfl,?_⟩
 replace hs:=hs.callE hq
 refine wN rfl<|wA<|wZ<|CW.cond rfl (fun h=>?_) (fun h=>?_)
 ·cases h
 refine sr<|wm<|wR ty44 rfl hdl hs.a1<|wE rfl (run_call en52 rfl rfl) (hwh hs.hd (hs.get (o:=mapObj M clock) (by simp)) (hx.step hs hxO)) ?_
 rintro e w ⟨rfl,hq⟩
 refine⟨_,rfl,?_⟩
 replace hs:=hs.callE hq
 refine wN rfl<|wA<|wZ<|CW.cond rfl (fun h=>?_) (fun h=>?_)
 ·cases h
 refine ck<|sr<|wm<|wR ty44 rfl hdl hs.a1<|wE rfl (run_call en102 rfl rfl) (raw_spec _ hs.hd (hs.get (o:=mapObj M clock) (by simp)) hM hd hu hb' (hx.step hs hxO) hsx) ?_
 rintro e w ⟨v',Lv,rfl,hu',hq⟩
 refine⟨_,rfl,?_⟩
 replace hs:=Step.append_comm (L2:=[_,_,_]) (Step.call0 hs hq)
 refine wm<|wx rfl rfl<|wx rfl rfl<|wA<|wA<|wZ<|sr<|wm<|wA<|wA<|wZ<|CW.ret ?_
 refine fin_ret2 rfl ?_
 exact⟨v',Lv,rfl,hu',hs.swap.tail⟩
end
theorem bld_store (k c:Int) (m:Nat) (w:World):(Instr.build 140 #[(0,.int .i64 k),(1,.int .i64 c),(4,.map (some m))]).run Tryz.prog w=.ok (.agg #[.int .i64 k,.int .i64 c,.int .i64 0,.int .i64 0,.map (some m),.int .i64 0,.int .i64 0]) w:=by kernel_rfl
theorem new_width{k c:Int} (hk:k<1∨32<k) (w:World):CP 56 #[.int .i64 k,.int .i64 c] w (Ret0 (.tuple #[.pointer none,.int .i64 3]) w):=by
 have hs:Step [] [] w w:=Step.refl w
 refine calls (n:=25) Tryz.func56 rfl rfl rfl ?_
 refine sr<|wA<|wA<|wZ<|cq<|sr<|wV (run_build rfl ((bld_dig _)))<|wm<|wE rfl (run_call en105 rfl rfl) (cut_bad zD_len hk _) ?_
 rintro e w ⟨rfl,hq⟩
 refine⟨_,rfl,?_⟩
 replace hs:=hs.callE hq
 refine wm<|wx rfl rfl<|wx rfl rfl<|WL.alloc ty44 rfl hs (fun b6 w hs=>?_)
 refine WL.storeAll ty44 rfl rfl ((by rfl)) (Cells1.u8s _) hs (by rfl) (fun w hs=>?_)
 refine wA<|wZ<|sr<|wm<|nT<|wZ<|CW.cond rfl (fun h=>?_) (fun h=>?_)
 ·refine sr<|wm<|wA<|wA<|wZ<|CW.ret ?_
  refine fin_ret2 rfl ?_
  exact⟨rfl,hs.clear⟩
 ·cases h
theorem new_arg{k:Nat}{c:Int} (hk1:1≤k) (hk:k≤32) (hc:¬(0≤c∧c≤67108864)) (w:World):CP 56 #[.int .i64 k,.int .i64 c] w (Ret0 (.tuple #[.pointer none,.int .i64 1]) w):=by
 have hs:Step [] [] w w:=Step.refl w
 have hcap:=fun w=>capable_spec c w
 simp only[decide_eq_false hc] at hcap
 have hcl:(u8s (cutD zD k)).length=32:=by rw[u8s,length_map,cutD_len zD_len hk]
 refine calls (n:=25) Tryz.func56 rfl rfl rfl ?_
 refine sr<|wA<|wA<|wZ<|cq<|sr<|wV (run_build rfl ((bld_dig _)))<|wm<|wE rfl (run_call en105 rfl rfl) (cut_ok zD_len hk1 hk _) ?_
 rintro e w ⟨rfl,hq⟩
 refine⟨_,rfl,?_⟩
 replace hs:=hs.callE hq
 refine wm<|wx rfl rfl<|wx rfl rfl<|WL.alloc ty44 rfl hs (fun b6 w hs=>?_)
 refine WL.storeAll ty44 rfl rfl ((hcl)) (Cells1.u8s _) hs (by rfl) (fun w hs=>?_)
 refine wA<|wZ<|sr<|wm<|nF<|wZ<|CW.cond rfl (fun h=>?_) (fun h=>?_)
 ·cases h
 refine ck<|cq<|sr<|wm<|wE rfl (run_call en104 rfl rfl) (hcap _) ?_
 rintro e w ⟨rfl,hq⟩
 refine⟨_,rfl,?_⟩
 replace hs:=hs.callE hq
 refine wN rfl<|wZ<|CW.cond rfl (fun h=>?_) (fun h=>?_)
 ·refine sr<|wA<|wA<|wZ<|CW.ret ?_
  refine fin_ret2 rfl ?_
  exact⟨rfl,hs.clear⟩
 ·cases h
theorem new_ok{k c:Nat} (hk1:1≤k) (hk:k≤32) (hc:c≤67108864) (w:World):CP 56 #[.int .i64 k,.int .i64 c] w (fun e w'=>∃bs m,e=.returned (.tuple #[pt bs,.int .i64 0])∧Step [] [(bs,blk 140 (stC k c 0 0 m 0 0)),(m,mapObj [] 0)] w w'):=by
 have hs:Step [] [] w w:=Step.refl w
 have hcap:=fun w=>capable_spec (c:Int) w
 have hc':(0:Int)≤c∧(c:Int)≤67108864:=by omega
 simp only[decide_eq_true hc'] at hcap
 have hcl:(u8s (cutD zD k)).length=32:=by rw[u8s,length_map,cutD_len zD_len hk]
 refine calls (n:=25) Tryz.func56 rfl rfl rfl ?_
 refine sr<|wA<|wA<|wZ<|cq<|sr<|wV (run_build rfl ((bld_dig _)))<|wm<|wE rfl (run_call en105 rfl rfl) (cut_ok zD_len hk1 hk _) ?_
 rintro e w ⟨rfl,hq⟩
 refine⟨_,rfl,?_⟩
 replace hs:=hs.callE hq
 refine wm<|wx rfl rfl<|wx rfl rfl<|WL.alloc ty44 rfl hs (fun b6 w hs=>?_)
 refine WL.storeAll ty44 rfl rfl ((hcl)) (Cells1.u8s _) hs (by rfl) (fun w hs=>?_)
 refine wA<|wZ<|sr<|wm<|nF<|wZ<|CW.cond rfl (fun h=>?_) (fun h=>?_)
 ·cases h
 refine ck<|cq<|sr<|wm<|wE rfl (run_call en104 rfl rfl) (hcap _) ?_
 rintro e w ⟨rfl,hq⟩
 refine⟨_,rfl,?_⟩
 replace hs:=hs.callE hq
 refine wN rfl<|wZ<|CW.cond rfl (fun h=>?_) (fun h=>?_)
 ·cases h
 refine ck<|sr<|wm<|wm<|WL.makeMapD rfl hs (fun b22 w hs=>?_)
 refine wV (run_build rfl ((bld_store _ _ _ _)))<|WL.box (cs:=stC k c 0 0 b22 0 0) rfl rfl rfl hs (fun b24 w hs=>?_)
 refine wA<|wA<|wZ<|CW.ret ?_
 refine fin_ret2 rfl ?_
 exact⟨b24,b22,rfl,hs.dropR (L1:=[_,_])⟩
end Go.Gx
namespace Go.Gx
open Go.Proofs List
abbrev MEnt:=(List UInt8)×Value×Nat
def entO (p:MEnt):MapEntry:={ key:=.agg (u8s p.1).toArray,val:=p.2.1,born:=p.2.2 }
theorem ents_map (M:List MEnt):ents M=M.map entO:=rfl
structure Born (M:List MEnt) (clock:Nat):Prop where
 lt:∀p∈M,p.2.2<clock
 nodup:(M.map (·.2.2)).Nodup
def iterO (m since:Nat) (done:List MEnt):Obj:=.mapIter (some m) since (List.map (fun(p:MEnt)=>p.2.2) done).toArray since
section
variable{P:Program}{w:World}{r m clock:Nat}{M done left:List MEnt}
theorem leftOf_mem{M:List MEnt}{seen:Array Nat}{e:MapEntry}:e∈(leftOf (ents M).toArray seen).toList↔∃p∈M,e=entO p∧p.2.2∉seen:=by
 simp only[leftOf,ents_map,Array.toList_filter,mem_filter,mem_map]
 constructor
 ·rintro⟨⟨p,hp,rfl⟩,h⟩
  exact⟨p,hp,rfl,by simpa[entO] using h⟩
 ·rintro⟨p,hp,rfl,h⟩
  exact⟨⟨p,hp,rfl⟩,by simpa[entO] using h⟩
theorem born_parted (hB:Born M clock) (hp:(done++left).Perm M){p:MEnt} (hm:p∈M):p.2.2∉(List.map (fun(p:MEnt)=>p.2.2) done).toArray↔p∈left:=by
 have hn:((done++left).map (·.2.2)).Nodup:=(hp.map _).nodup_iff.2 hB.nodup
 rw[map_append,nodup_append] at hn
 have hin:=hp.mem_iff.2 hm
 rw[mem_append] at hin
 constructor
 ·intro h
  rcases hin with h1 | h1
  ·exact absurd (by simpa using⟨p.1,p.2.1,h1⟩) h
  ·exact h1
 ·intro h hd
  have hd':p.2.2∈done.map (·.2.2):=by simpa using hd
  exact hn.2.2 _ hd' _ (mem_map_of_mem h) rfl
theorem run_nextM (ty:TypeId) (hB:Born M clock) (hr:w.heap[r]?=some (iterO m clock done)) (hm:w.heap[m]?=some (mapObj M clock)) (hp:(done++left).Perm M) :
  (left=[]∧(Instr.next (pt r) false ty).run P w=.ok (.tuple #[.bool false]) w)∨
  ∃ p left' w1, left.Perm (p :: left') ∧ (w1 = w ∨ w1 = w.drew) ∧ (Instr.next (.pointer (some ⟨r, 0, none⟩)) false ty).run P w = .ok (.tuple #[.bool true, .agg (u8s p.1).toArray, p.2.1]) { w1 with heap := w1.heap.setIfInBounds r (iterO m clock (done ++ [p])) } := by
 have hold:∀x∈(ents M).toArray.toList,x.born<clock:=by
  intro x hx
  simp only[ents_map,mem_map] at hx
  obtain⟨p,hp,rfl⟩:=hx
  exact hB.lt p hp
 rcases run_next_at (P:=P) w ty r m clock clock (List.map (fun(p:MEnt)=>p.2.2) done).toArray (ents M).toArray clock hr hm hold (Nat.le_refl _) with⟨h0,h⟩ | ⟨e,he,w1,hw,h⟩
 ·refine .inl ⟨?_,h⟩
  cases hl:left with
  | nil=>rfl
  | cons q l=>
   have hq:q∈M:=hp.mem_iff.1 (by rw[hl];simp)
   have h1:=(born_parted hB hp hq).2 (by rw[hl];simp)
   have h2:entO q∈(leftOf (ents M).toArray (List.map (fun(p:MEnt)=>p.2.2) done).toArray).toList:=leftOf_mem.2 ⟨q,hq,rfl,h1⟩
   have h3:(leftOf (ents M).toArray (List.map (fun(p:MEnt)=>p.2.2) done).toArray).toList=[]:=by
    apply eq_nil_of_length_eq_zero;simpa using h0
   rw[h3] at h2
   cases h2
 ·have ob:=leftOf_mem.1 he
  obtain⟨p,hpm,rfl,hns⟩:=ob
  have hl:=(born_parted hB hp hpm).1 hns
  have ob:=append_of_mem hl
  obtain⟨a,b,rfl⟩:=ob
  refine .inr ⟨p,a++b,w1,perm_middle,hw,?_⟩
  rw[h]
  simp[ChangeMaps.setBlock,iterO,entO]
theorem run_entryAtM (hB:Born M clock){p:MEnt} (hr:w.heap[r]?=some (iterO m clock (done++[p]))) (hm:w.heap[m]?=some (mapObj M clock)) (hp:p∈M) :
  (Instr.entry (pt r)).run P w=.ok (.tuple #[.agg (u8s p.1).toArray,p.2.1]) w:=by
 have h:=run_entry_at (P:=P) w r m clock (List.map (fun(p:MEnt)=>p.2.2) done).toArray (ents M).toArray clock (entO p) (by rw[hr];simp[iterO,entO]) hm (by simp only[ents_map];exact mem_map_of_mem hp) (by simpa[ents_map,entO,Function.comp_def] using hB.nodup)
 exact h
end
section
variable{P:Program}{ops:Array Oper}{n d:Nat}{rest:List Oper}{f:Slots}{ds:List Deferred}{w w0:World}{S:List Nat}{L:OL}{Q:Post}{ty:TypeId}{pos:String}{af:Array Edge}{x:Operand}{T K E:TypeId}{m clock it:Nat}{M done left:List MEnt}{dd:Option Tmp}
theorem WL.rangeM (ht:P.underlying T=some (.map K E)) (hx:ev f x=.map (some m)) (hm:w.heap[m]?=some (mapObj M clock)) (hd:Nat.blt d n=true) (hs:Step S L w0 w)
  (h:∀b w',Step S ((b,iterO m clock [])::L) w0 w'→WL P ops Q n rest (upd f d (pt b)) ds w'):WL P ops Q n (⟨some d,.range T x,ty,pos,af,none⟩::rest) f ds w:=by
 refine WL.val hd (v:=.pointer (some ⟨w.heap.size,0,none⟩)) (w':=w.alloc (iterO m clock [])) ?_ (h _ _ (hs.alloc _))
 have hg:=MapKept.run_getObj_map (P:=P) hm
 simp[execOp,hx,Instr.range,run_underlying ht,hg,iterO]
theorem WL.nextM (hx:ev f x=pt it) (hd:Nat.blt d n=true) (hs:Step S ((it,iterO m clock done)::L) w0 w) (hm:w.heap[m]?=some (mapObj M clock)) (hB:Born M clock) (hp:(done++left).Perm M) (hne:left≠[])
  (h:∀p left' w',left.Perm (p::left')→((done++[p])++left').Perm M→Step S ((it,iterO m clock (done++[p]))::L) w0 w'→WL P ops Q n rest (upd f d (.tuple #[.bool true,.agg (u8s p.1).toArray,p.2.1])) ds w') :
  WL P ops Q n (⟨some d,.next x false,ty,pos,af,none⟩::rest) f ds w:=by
 rcases run_nextM (P := P) ty hB hs.hd hm hp with ⟨h0, _⟩ | ⟨p, left', w1, hl, hw, hrun⟩
 ·exact absurd h0 hne
 ·have hs1:Step S ((it,iterO m clock done)::L) w0 w1:=by rcases hw with rfl | rfl;exact hs;exact hs.drew
  have hp':((done++[p])++left').Perm M:=by
   rw[append_assoc]
   exact(hl.symm.append_left done).trans hp
  refine WL.val hd ?_ (h p left' _ hl hp' (hs1.setO _))
  simp only[execOp,hx,Sem.run_bind,hrun,Result.andThen_ok]
  rfl
theorem run_nextMEnd (hx:ev f x=pt it) (hr:w.heap[it]?=some (iterO m clock done)) (hm:w.heap[m]?=some (mapObj M clock)) (hB:Born M clock) (hp:(done++[]).Perm M) :
  (execOp (ev f) ⟨dd,.next x false,ty,pos,af,none⟩).run P w=.ok (.value (.tuple #[.bool false])) w:=by
 rcases run_nextM (P := P) ty hB hr hm hp with ⟨h0, h⟩ | ⟨p, left', w1, hl, hw, hrun⟩
 ·simp only[execOp,hx,Sem.run_bind,h,Result.andThen_ok]
  rfl
 ·simp at hl
theorem run_entryM (hx:ev f x=pt it){p:MEnt} (hr:w.heap[it]?=some (iterO m clock (done++[p]))) (hm:w.heap[m]?=some (mapObj M clock)) (hB:Born M clock) (hp:p∈M) :
  (execOp (ev f) ⟨dd,.entry x,ty,pos,af,none⟩).run P w=.ok (.value (.tuple #[.agg (u8s p.1).toArray,p.2.1])) w:=by
 have h:=run_entryAtM (P:=P) hB hr hm hp
 simp only[execOp,hx,Sem.run_bind,h,Result.andThen_ok]
 rfl
end
def BlobV (v:Value):Prop:=∃a n c st,v=.agg #[.slice a n c,.int .i64 st]
def twinM:List MEnt→Nat→List MEnt
 | [],_=>[]
 | p::M,i=>(p.1,p.2.1,i)::twinM M (i+1)
theorem twinM_snoc:∀(M:List MEnt) (i:Nat) (p:MEnt),twinM (M++[p]) i=twinM M i++[(p.1,p.2.1,i+M.length)]
 | [],i,p=>rfl
 | q::M,i,p=>by
  rw[cons_append,twinM,twinM_snoc,twinM,cons_append,length_cons,show i+1+M.length=i+(M.length+1) by omega]
theorem twinM_fst:∀(M:List MEnt) (i:Nat),(twinM M i).map (fun p=>(p.1,p.2.1))=M.map (fun p=>(p.1,p.2.1))
 | [],_=>rfl
 | p::M,i=>by rw[twinM,map_cons,map_cons,twinM_fst M (i+1)]
theorem twinM_ge:∀(M:List MEnt) (i:Nat),∀p∈twinM M i,i≤p.2.2∧p.2.2<i+M.length
 | [],_,p,h=>by cases h
 | q::M,i,p,h=>by
  rw[twinM] at h
  rcases mem_cons.1 h with rfl | h
  ·simp
  ·have:=twinM_ge M (i+1) p h
   simp only[length_cons]
   omega
theorem twinM_nodup:∀(M:List MEnt) (i:Nat),((twinM M i).map (fun p=>p.2.2)).Nodup
 | [],_=>by simp[twinM]
 | q::M,i=>by
  rw[twinM,map_cons,nodup_cons]
  refine⟨fun h=>?_,twinM_nodup M (i+1)⟩
  have ob:=mem_map.1 h
  obtain⟨p,hp,he⟩:=ob
  have:=(twinM_ge M (i+1) p hp).1
  simp only at he
  omega
theorem twinM_born (M:List MEnt):Born (twinM M 0) M.length:=⟨fun p hp=>by have:=twinM_ge M 0 p hp;omega,twinM_nodup M 0⟩
theorem findD_none{d:U8}:∀{M:List MEnt}{i:Nat},d∉M.map (fun p=>p.1)→findD d M i=none
 | [],_,_=>rfl
 | p::M,i,h=>by
  simp only[map_cons,mem_cons,not_or] at h
  rw[findD,if_neg h.1,findD_none h.2]
theorem twin_spec{bs k cap used last m gets puts clock:Nat}{M:List MEnt} (w0:World) (hb:w0.heap[bs]?=some (blk 140 (stC k cap used last m gets puts))) (hm:w0.heap[m]?=some (mapObj M clock))
  (hM:Keys32 M) (hB:Born M clock) (hK:(M.map (fun p=>p.1)).Nodup) (hV:∀p∈M,BlobV p.2.1) :
  CP 48 #[pt bs] w0 (fun e w'=>∃bt m2 M2,e=.returned (pt bt)∧(M2.map (fun p=>(p.1,p.2.1))).Perm (M.map (fun p=>(p.1,p.2.1)))∧Born M2 M2.length∧Step [] [(bt,blk 140 (stC k cap used last m2 gets puts)),(m2,mapObj M2 M2.length)] w0 w'):=by
 have hs:Step [] [] w0 w0:=Step.refl w0
 have hat:At w0 bs 0 (stC k cap used last m gets puts):=At.of_blk hb
 refine calls (n:=25) Tryz.func48 rfl rfl rfl ?_
 refine sr<|wA<|wZ<|sr<|wm<|wn rfl<|wR ty140 rfl (cs:=stC k cap used last m gets puts) (by rfl) (hat.step hs (by simp))<|WL.alloc ty140 rfl hs (fun b3 w hs=>?_)
 refine WL.storeAll ty140 rfl rfl ((by rfl)) (Cells1.of_all rfl) hs (by rfl) (fun w hs=>?_)
 refine wZ<|sr<|WL.makeMapD rfl hs (fun b9 w hs=>?_)
 refine wF 4 u140 rfl ty138 rfl<|WL.store1_1 ty138 rfl rfl (rfl) hs (by first | (simp;done) | omega | (simp only[length_append,length_replicate,length_cons,length_nil,length_set];omega) | (simp[Ent.cells,u8s];done) | exact Nat.le_of_ble_eq_true rfl) (fun w hs=>?_)
 refine wZ ?_
 replace hs:Step [] [(b3,blk 140 (stC k cap used last b9 gets puts)),(b9,mapObj [] 0)] w0 w:=by first | exact hs | exact hs.swap
 refine cq<|sr<|wm<|wn rfl<|wF 4 u140 rfl ty138 rfl<|wl ty138 rfl ((hat.step hs.clear (by simp)).cell (j:=4) rfl)<|WL.rangeM u138 rfl (hs.old hm (by simp)) rfl hs (fun b15 w hs=>?_)
 refine wZ<|cB<|CW.loop (fun mm f w'=>∃done left,mm=left.length∧(done++left).Perm M∧Step [] [(b15,iterO m clock done),(b3,blk 140 (stC k cap used last b9 gets puts)),(b9,mapObj (twinM done 0) done.length)] w0 w'∧Holds f [(0,pt bs),(3,pt b3),(15,pt b15)]) (m:=M.length) ?_ ?_
 ·exact⟨[],M,rfl,List.Perm.refl _,hs,rfl,rfl,rfl,trivial⟩
 ·rintro mm f w ⟨done,left,rfl,hperm,hs,hf⟩
  have ob:=hf.chain
  obtain⟨g,rfl⟩:=ob
  by_cases hne:left=[]
  ·subst hne
   refine sr<|wV (run_nextMEnd rfl hs.hd (hs.old hm (by simp)) hB hperm)<|wx rfl rfl<|wZ<|cq<|CW.cond rfl (fun h=>?_) (fun h=>?_)
   ·cases h
   refine CW.exit<|sr<|wA<|wZ<|CW.ret ?_
   refine fin_ret1 rfl ?_
   rw[append_nil] at hperm
   refine⟨b3,b9,twinM done 0,rfl,?_,?_,?_⟩
   ·rw[twinM_fst];exact hperm.map _
   ·have hl:(twinM done 0).length=done.length:=by have:=congrArg List.length (twinM_fst done 0);simpa using this
    rw[hl];exact twinM_born done
   ·have hl:(twinM done 0).length=done.length:=by have:=congrArg List.length (twinM_fst done 0);simpa using this
    rw[hl];exact hs.tail
  ·refine sr<|WL.nextM rfl rfl hs (hs.old hm (by simp)) hB hperm hne (fun p left' w hleft hperm hs=>?_)
   refine wx rfl rfl<|wZ ?_
   have hpM:p∈M:=hperm.mem_iff.1 (by simp)
   have hpv:=hV p hpM
   obtain⟨pd,pv,pb⟩:=p
   obtain⟨a,nn,c,st,rfl⟩:=hpv
   have hpd:pd.length=32:=hM _ hpM
   have hdl:(u8s pd).length=32:=by rw[u8s,length_map,hpd]
   have hlen:left.length=left'.length+1:=by rw[hleft.length_eq];rfl
   refine cq<|CW.cond rfl (fun h=>?_) (fun h=>?_)
   ·have hnd:pd∉(twinM done 0).map (fun p=>p.1):=by
     have e:(twinM done 0).map (fun p=>p.1)=done.map (fun p=>p.1):=by
      have:=congrArg (List.map Prod.fst) (twinM_fst done 0)
      simpa[map_map,Function.comp_def] using this
     rw[e]
     have h1:=(hperm.map (fun p:MEnt=>p.1)).nodup_iff.2 hK
     simp only[map_append,nodup_append,map_cons,map_nil] at h1
     intro hc
     exact h1.1.2.2 _ hc _ (by simp) rfl
    have hK9:Keys32 (twinM done 0):=by
     intro q hq
     have h1:(q.1,q.2.1)∈done.map (fun p=>(p.1,p.2.1)):=by rw[←twinM_fst done 0];exact mem_map.2 ⟨q,hq,rfl⟩
     have ob:=mem_map.1 h1
     obtain⟨q',hq',he⟩:=ob
     have:=hM q' (hperm.mem_iff.1 (by simp[hq']))
     simp only[Prod.mk.injEq] at he
     rw[←he.1];exact this
    have hVc:Cells1 [Value.slice a nn c,.int .i64 st]:=Cells1.of_all rfl
    refine ck<|cB<|sr<|wV (run_entryM rfl hs.hd (hs.old hm (by simp)) hB hpM)<|wx rfl rfl<|wx rfl rfl<|WL.alloc ty44 rfl hs (fun b4 w hs=>?_)
    refine WL.alloc ty158 rfl hs (fun b5 w hs=>?_)
    refine WL.storeAll_1 ty44 rfl rfl ((hdl)) (Cells1.u8s _) hs (by rfl) (fun w hs=>?_)
    refine WL.storeAll ty158 rfl rfl ((by rfl)) (Cells1.of_all rfl) hs (by rfl) (fun w hs=>?_)
    refine wZ<|cr<|wF 4 u140 rfl ty138 rfl<|wl ty138 rfl (hs.c3 rfl)<|wR ty44 rfl (by assumption) hs.a1<|wR ty158 rfl (by rfl) hs.a0<|WL.mapPut u138 rfl rfl rfl hK9 hpd (hs.front [_,_,_,_]) (fun w hs=>?_)
    refine wZ ?_
    have e1:putM pd (.agg #[.slice a nn c,.int .i64 st]) done.length (twinM done 0)=twinM (done++[(pd,.agg #[.slice a nn c,.int .i64 st],pb)]) 0:=by
     rw[twinM_snoc,putM,findD_none hnd,Nat.zero_add];rfl
    have e2:putC pd done.length (twinM done 0)=(done++[((pd,Value.agg #[.slice a nn c,.int .i64 st],pb):MEnt)]).length:=by
     rw[putC,findD_none hnd,length_append];rfl
    refine(show _∧_ from⟨rfl,_,?_,done++[(pd,.agg #[.slice a nn c,.int .i64 st],pb)],left',rfl,hperm,?_,rfl,rfl,rfl,trivial⟩)
    ·omega
    ·have e3:Step [] [(b9,mapObj (putM pd (.agg #[.slice a nn c,.int .i64 st]) done.length (twinM done 0)) (putC pd done.length (twinM done 0))),_,_,(b15,iterO m clock (done++[(pd,.agg #[.slice a nn c,.int .i64 st],pb)])),(b3,blk 140 (stC k cap used last b9 gets puts))] w0 w:=hs
     rw[e1,e2] at e3
     exact Step.dropR (L1:=[_,_,_]) (Step.append_comm (L1:=[_,_,_]) (L2:=[_,_]) e3)
   ·cases h
def ltD:(List UInt8)→(List UInt8)→Bool
 | a::x,b::y=>if a<b then true else if b<a then false else ltD x y
 | [],_::_=>true
 | _,[]=>false
theorem u8_tri{a b:UInt8} (h1:¬a<b) (h2:¬b<a):a=b:=by
 apply UInt8.toNat_inj.1
 rw[UInt8.lt_iff_toNat_lt] at h1 h2
 omega
theorem ltD_irrefl:∀x,ltD x x=false
 | []=>rfl
 | a::x=>by simp[ltD,ltD_irrefl x]
theorem ltD_trans:∀x y z,ltD x y=true→ltD y z=true→ltD x z=true
 | [],[],z,h,_=>by simp[ltD] at h
 | [],_::_,[],_,h=>by simp[ltD] at h
 | [],_::_,_::_,_,_=>rfl
 | _::_,[],_,h,_=>by simp[ltD] at h
 | _::_,_::_,[],_,h=>by simp[ltD] at h
 | a::x,b::y,c::z,h1,h2=>by
  simp only[ltD] at *
  by_cases hab:a<b
  ·by_cases hbc:b<c
   ·rw[if_pos (by rw[UInt8.lt_iff_toNat_lt] at *;omega)]
   ·rw[if_neg hbc] at h2
    by_cases hcb:c<b
    ·rw[if_pos hcb] at h2;cases h2
    ·rw[←u8_tri hbc hcb,if_pos hab]
  ·rw[if_neg hab] at h1
   by_cases hba:b<a
   ·rw[if_pos hba] at h1;cases h1
   ·obtain rfl:=u8_tri hab hba
    rw[if_neg hba] at h1
    by_cases hbc:a<c
    ·rw[if_pos hbc]
    ·rw[if_neg hbc] at h2⊢
     by_cases hcb:c<a
     ·rw[if_pos hcb] at h2;cases h2
     ·rw[if_neg hcb] at h2⊢
      exact ltD_trans x y z h1 h2
theorem ltD_tri:∀x y,ltD x y=false→ltD y x=false→x=y
 | [],[],_,_=>rfl
 | [],_::_,h,_=>by simp[ltD] at h
 | _::_,[],_,h=>by simp[ltD] at h
 | a::x,b::y,h1,h2=>by
  simp only[ltD] at h1 h2
  by_cases hab:a<b
  ·rw[if_pos hab] at h1;cases h1
  ·by_cases hba:b<a
   ·rw[if_pos hba] at h2;cases h2
   ·rw[if_neg hab,if_neg hba] at h1
    rw[if_neg hba,if_neg hab] at h2
    rw[u8_tri hab hba,ltD_tri x y h1 h2]
theorem compareBytes_lt:∀x y,decide (Lib.compareBytes x y<0)=ltD x y
 | [],[]=>rfl
 | [],_::_=>rfl
 | _::_,[]=>rfl
 | a::x,b::y=>by
  simp only[Lib.compareBytes,ltD]
  by_cases h1:a<b
  ·simp[h1]
  ·by_cases h2:b<a
   ·simp[h1,h2]
   ·simp[h1,h2,compareBytes_lt x y]
theorem run_bytesOf{P:Program}{w:World}{v:Value}{k:Nat}{x:U8} (hv:Sl w 1 v k (u8s x)):(Extern.Bytes.bytesOf v).run P w=.ok ⟨⟨x⟩⟩ w:=by
 obtain⟨hl,⟨a,c,rfl,rfl⟩ | ⟨b,off,c,rfl,hat⟩⟩:=hv
 ·have:x=[]:=by simpa[u8s] using hl
  subst this
  cases a <;> rfl
 ·have hlen:x.length=k:=by simpa[u8s] using hl
  subst hlen
  have h:=Lib.run_loadBytesX (P:=P) w (x.map fun z=>(z.toNat:Int)) ⟨b,off,none⟩ .empty (fun j z hj=>by
   rw[getElem?_map] at hj
   cases hx:x[j]? with
   | none=>rw[hx] at hj;cases hj
   | some y=>
    rw[hx] at hj
    obtain rfl:(y.toNat:Int)=z:=by simpa using hj
    have h1:=hat j (.int .u8 y.toNat) (by simp[u8s,hx])
    rw[Addr.add_lit];exact h1)
  rw[length_map] at h
  simp only[Extern.Bytes.bytesOf]
  rw[h]
  have e:Lib.bytesOf (x.map fun z=>(z.toNat:Int))=x:=by
   simp[Lib.bytesOf,Function.comp_def]
  rw[e]
  simp
theorem compare_spec{u v:Value}{x y:U8} (w0:World) (hu:Sl w0 1 u x.length (u8s x)) (hv:Sl w0 1 v y.length (u8s y)):CP 132 #[u,v] w0 (Ret0 (.int .i64 (Lib.compareBytes x y)) w0):=by
 have hs:Step [] [] w0 w0:=Step.refl w0
 have hr:∀w,Step [] [] w0 w→(Extern.BytealgCompare.compare #[u,v]).run Tryz.prog w=.ok (.int .i64 (Lib.compareBytes x y)) w:=fun w hw=>by
  change Sem.run Tryz.prog (do pure (goInt (Extern.BytealgCompare.cmp (←Extern.Bytes.bytesOf u) (←Extern.Bytes.bytesOf v)))) w=_
  simp only[Sem.run_bind,run_bytesOf (hu.step0 hw),run_bytesOf (hv.step0 hw),Result.andThen_ok,Sem.run_pure]
  rw[Lib.cmp_eq]
  rfl
 refine calls (n:=8) Tryz.func132 rfl rfl rfl ?_
 refine sr<|wA<|wZ<|sr<|wm<|wm<|wV (run_callExt Tryz.func173 (by kernel_rfl) (by kernel_rfl) (by kernel_rfl) (e:=Extern.BytealgCompare.compare) (by kernel_rfl) rfl rfl (hr _ hs))<|wA<|wZ<|CW.ret ?_
 refine fin_ret1 rfl ?_
 exact⟨rfl,hs⟩
theorem less_spec{x y:U8} (hx:x.length=32) (hy:y.length=32) (w0:World):CP 81 #[.agg (u8s x).toArray,.agg (u8s y).toArray] w0 (Ret0 (.bool (ltD x y)) w0):=by
 have hs:Step [] [] w0 w0:=Step.refl w0
 have hxl:(u8s x).length=32:=by rw[u8s,length_map,hx]
 have hyl:(u8s y).length=32:=by rw[u8s,length_map,hy]
 refine calls (n:=9) Tryz.func81 rfl rfl rfl ?_
 refine sr<|WL.box (cs:=u8s x) rfl rfl rfl hs (fun b2 w hs=>?_)
 refine WL.box (cs:=u8s y) rfl rfl rfl hs (fun b3 w hs=>?_)
 refine wA<|wZ ?_
 rw[←compareBytes_lt]
 refine cq<|CW.quiet mixedP (by kernel_rfl) hs ?_
 refine qV (fun w hs=>run_sliceArr  u44 ty5 rfl rfl rfl (by omega) (by omega))<|qV (fun w hs=>run_sliceArr  u44 ty5 rfl rfl rfl (by omega) (by omega))<|QL.enter rfl (fun w=>run_call en132 rfl rfl) (fun w hs=>compare_spec _ (x:=x) (y:=y) (by rw[hx];exact .mk hxl hs.a1) (by rw[hy];exact .mk hyl hs.a0)) ?_
 refine qV (fun w hs=>run_lss rfl rfl)<|qA<|QL.nil (fun w hs=>?_)
 refine CW.ret ?_
 refine fin_ret1 rfl ?_
 exact⟨rfl,hs.clear⟩
theorem wrong_spec{k:Int}{n a:U8}{r:Int} (hr:wrongE k n a=r) (w:World) (hn:n.length≤9223372036854775807):CP 162 #[.int .i64 k,str n,str a] w (Ret0 (.int .i64 r) w):=by
 have hs:Step [] [] w w:=Step.refl w
 by_cases h2:k=2
 ·subst h2
  by_cases hnm:isName n=true
  ·by_cases hb:Op.bytesLess a n=true
   ·obtain rfl:r=0:=by rw[←hr];simp[wrongE,hnm,hb]
    refine calls (n:=19) Tryz.func162 rfl rfl rfl ?_
    refine sr<|wA<|wZ<|cq<|sr<|wm<|wZ<|cB<|cq<|cB<|cB<|cq<|cq<|cq ?_
    refine cr<|eT<|wA<|wZ<|cT rfl<|CW.exit<|cq<|sr<|wm<|wE rfl (run_call en187 rfl rfl) (isName_spec hnm _ hn) ?_
    rintro e w ⟨rfl,hq⟩
    refine⟨_,rfl,?_⟩
    refine wm<|wy<|wm<|wy<|wm<|wy<|wV (run_bE (run_strGt rfl rfl) ((bytesLess_gt n a).trans hb))<|pT<|wZ<|cT rfl<|sr<|wA<|wZ ?_
    refine CW.ret ?_
    refine fin_ret1 rfl ?_
    exact⟨rfl,hs.callE hq⟩
   ·obtain rfl:r=51:=by rw[←hr];simp[wrongE,hnm,hb]
    refine calls (n:=19) Tryz.func162 rfl rfl rfl ?_
    refine sr<|wA<|wZ<|cq<|sr<|wm<|wZ<|cB<|cq<|cB<|cB<|cq<|cq<|cq ?_
    refine cr<|eT<|wA<|wZ<|cT rfl<|CW.exit<|cq<|sr<|wm<|wE rfl (run_call en187 rfl rfl) (isName_spec hnm _ hn) ?_
    rintro e w ⟨rfl,hq⟩
    refine⟨_,rfl,?_⟩
    refine wm<|wy<|wm<|wy<|wm<|wy<|wV (run_bE (run_strGt rfl rfl) ((bytesLess_gt n a).trans (by simpa using hb)))<|pT<|wZ<|cF rfl<|ck<|CW.exit<|sr<|wA<|wZ ?_
    refine CW.ret ?_
    refine fin_ret1 rfl ?_
    exact⟨rfl,hs.callE hq⟩
  ·obtain rfl:r=51:=by rw[←hr];simp[wrongE,hnm]
   refine calls (n:=19) Tryz.func162 rfl rfl rfl ?_
   refine sr<|wA<|wZ<|cq<|sr<|wm<|wZ<|cB<|cq<|cB<|cB<|cq<|cq<|cq ?_
   refine cr<|eT<|wA<|wZ<|cT rfl<|CW.exit<|cq<|sr<|wm<|wE rfl (run_call en187 rfl rfl) (isName_spec (by simpa using hnm) _ hn) ?_
   rintro e w ⟨rfl,hq⟩
   refine⟨_,rfl,?_⟩
   refine wm<|wz<|wz<|wz<|pF<|wZ<|cF rfl<|ck<|CW.exit<|sr<|wA<|wZ<|CW.ret ?_
   refine fin_ret1 rfl ?_
   exact⟨rfl,hs.callE hq⟩
 ·by_cases h1:k=1
  ·subst h1
   by_cases hnm:isName n=true
   ·by_cases hb:Op.bytesLess a n=true
    ·obtain rfl:r=0:=by rw[←hr];simp[wrongE,hnm,hb]
     refine calls (n:=19) Tryz.func162 rfl rfl rfl ?_
     refine sr<|wA<|wZ<|cq<|sr<|wm<|wZ<|cB<|cq<|cB<|cB<|cq<|cq<|cq ?_
     refine cr<|eF<|wA<|wZ<|cF rfl<|ck<|sr<|eT<|wA<|wZ<|cT rfl<|CW.exit<|cq<|cq ?_
     refine cr<|wm<|wE rfl (run_call en187 rfl rfl) (isName_spec hnm _ hn) ?_
     rintro e w ⟨rfl,hq⟩
     refine⟨_,rfl,?_⟩
     refine wm<|wy<|wm<|wy<|wm<|wy<|wV (run_bE (run_strGt rfl rfl) ((bytesLess_gt n a).trans hb))<|pT<|wZ<|cT rfl<|sr<|wA<|wZ ?_
     refine CW.ret ?_
     refine fin_ret1 rfl ?_
     exact⟨rfl,hs.callE hq⟩
    ·obtain rfl:r=51:=by rw[←hr];simp[wrongE,hnm,hb]
     refine calls (n:=19) Tryz.func162 rfl rfl rfl ?_
     refine sr<|wA<|wZ<|cq<|sr<|wm<|wZ<|cB<|cq<|cB<|cB<|cq<|cq<|cq ?_
     refine cr<|eF<|wA<|wZ<|cF rfl<|ck<|sr<|eT<|wA<|wZ<|cT rfl<|CW.exit<|cq<|cq ?_
     refine cr<|wm<|wE rfl (run_call en187 rfl rfl) (isName_spec hnm _ hn) ?_
     rintro e w ⟨rfl,hq⟩
     refine⟨_,rfl,?_⟩
     refine wm<|wy<|wm<|wy<|wm<|wy<|wV (run_bE (run_strGt rfl rfl) ((bytesLess_gt n a).trans (by simpa using hb)))<|pT<|wZ<|cF rfl<|ck<|CW.exit<|sr<|wA<|wZ ?_
     refine CW.ret ?_
     refine fin_ret1 rfl ?_
     exact⟨rfl,hs.callE hq⟩
   ·obtain rfl:r=51:=by rw[←hr];simp[wrongE,hnm]
    refine calls (n:=19) Tryz.func162 rfl rfl rfl ?_
    refine sr<|wA<|wZ<|cq<|sr<|wm<|wZ<|cB<|cq<|cB<|cB<|cq<|cq<|cq ?_
    refine cr<|eF<|wA<|wZ<|cF rfl<|ck<|sr<|eT<|wA<|wZ<|cT rfl<|CW.exit<|cq<|cq ?_
    refine cr<|wm<|wE rfl (run_call en187 rfl rfl) (isName_spec (by simpa using hnm) _ hn) ?_
    rintro e w ⟨rfl,hq⟩
    refine⟨_,rfl,?_⟩
    refine wm<|wz<|wz<|wz<|pF<|wZ<|cF rfl<|ck<|CW.exit<|sr<|wA<|wZ<|CW.ret ?_
    refine fin_ret1 rfl ?_
    exact⟨rfl,hs.callE hq⟩
  ·obtain rfl:r=51:=by rw[←hr];simp[wrongE,h1,h2]
   refine calls (n:=19) Tryz.func162 rfl rfl rfl ?_
   refine sr<|wA<|wZ<|cq<|sr<|wm<|wZ<|cB<|cq<|cB<|cB<|cq<|cq<|cq ?_
   refine cr<|eF<|wA<|wZ<|cF rfl<|ck<|sr<|eF<|wA<|wZ<|cF rfl<|ck<|CW.exit<|cq ?_
   refine cr<|wA<|wZ<|CW.ret ?_
   refine fin_ret1 rfl ?_
   exact⟨rfl,hs⟩
theorem errE_take:∀(l:List Ent) (a:U8) (k:Nat) (hk:k<l.length),errE a (l.take k)=0→errE a (l.take (k+1))=wrongE (l[k]).kind (l[k]).name (((l.take k).getLast?.map Ent.name).getD a)
 | [],a,k,hk,_=>by simp at hk
 | x::l,a,0,hk,h=>by
  simp only[take_succ_cons,take_zero,errE,getElem_cons_zero,getLast?_nil,Option.map_none,Option.getD_none]
  split
  ·rename_i h1;exact h1.symm
  ·rfl
 | x::l,a,k+1,hk,h=>by
  simp only[take_succ_cons,errE] at h⊢
  split at h
  ·rename_i h1
   rw[if_pos h1,errE_take l x.name k (by simpa using hk) h]
   simp only[getElem_cons_succ]
   cases hl:l.take k with
   | nil=>simp
   | cons y ys=>simp[getLast?_cons]
  ·rename_i h1;exact absurd h h1
theorem errE_stop:∀(l:List Ent) (a:U8) (k:Nat),errE a (l.take k)≠0→errE a l=errE a (l.take k)
 | [],a,k,h=>by simp
 | x::l,a,0,h=>by simp[errE] at h
 | x::l,a,k+1,h=>by
  simp only[take_succ_cons,errE] at h⊢
  split
  ·rename_i h1
   rw[if_pos h1] at h
   exact errE_stop l x.name k h
  ·rfl
end Go.Gx
namespace Go.Gx
section
variable{P:Program}{f:Slots}{w:World}{d:Option Tmp}{ty:TypeId}{pos:String}{af:Array Edge}{x y:Operand}{T T':TypeId}
end
def Ent.lits (x:Ent):List Lit:=.string x.name::.int .i64 x.kind::u8l x.dig
def nbF (u:Nat):Nat→Nat
 | 0=>0
 | m+1=>if u / 256 ^ m=0 then nbF u m else m+1
def be (u:Nat):Nat→(List UInt8)
 | 0=>[]
 | k+1=>UInt8.ofNat (u / 256 ^ k)::be u k
def formB (u:Nat):(List UInt8):=if u<248 then [UInt8.ofNat u] else UInt8.ofNat (247+nbF u 8)::be u (nbF u 8)
theorem be_len (u:Nat):∀k,(be u k).length=k
 | 0=>rfl
 | k+1=>by simp[be,be_len u k]
theorem nbF_le (u:Nat):∀m,nbF u m≤m
 | 0=>Nat.le_refl _
 | m+1=>by
  unfold nbF
  split
  ·exact Nat.le_succ_of_le (nbF_le u m)
  ·exact Nat.le_refl _
theorem formB_len (u:Nat):(formB u).length≤9:=by
 unfold formB
 split
 ·simp
 ·simp only[List.length_cons,be_len]
  have:=nbF_le u 8
  omega
def addF (c:(List UInt8)) (ft:Int) (ps:List (List UInt8)):Int:=if ft=0∧c.length+ps.flatten.length > 4194304 then 2 else ft
def addC (c:(List UInt8)) (ft:Int) (ps:List (List UInt8)):(List UInt8):=if addF c ft ps=0 then c++ps.flatten else c
section
variable{P:Program}{f:Slots}{w:World}{d:Option Tmp}{ty:TypeId}{pos:String}{af:Array Edge}{x y:Operand}{T T':TypeId}{k k':IntKind}
end
section
variable{P:Program}{f:Slots}{w:World}{d:Option Tmp}{ty:TypeId}{pos:String}{af:Array Edge}{x y:Operand}{T T':TypeId}{k k':IntKind}
end
end Go.Gx
namespace Go.Gx
open Go.Proofs List
def Wr (b:Nat) (c:(List UInt8)) (ft:Int) (Lw:(List (Nat×Obj))):Prop:=∃v Lv,Lw=(b,blk 237 [v,.int .i64 ft])::Lv∧OwnSl 5 1 v c.length (u8s c) Lv
def Parts (S:List Nat) (w:World) (lv:Value) (ps:List (List UInt8)):Prop:=
 ∃vs,vs.length=ps.length∧Sl w 1 lv ps.length vs∧Outside lv S∧∀(i:Nat) (h:i<ps.length),∃a c,vs[i]?=some (.slice a (ps[i]).length c)∧Sl w 1 (.slice a (ps[i]).length c) (ps[i]).length (u8s ps[i])∧Outside (.slice a (ps[i]).length c) S
def frontB (l:(List UInt8)):(List UInt8):=(l.reverse.dropWhile (· == 0)).reverse
theorem frontB_of{l:U8}{n:Nat} (hn:n≤l.length) (hz:∀j,n≤j→(h:j<l.length)→l[j]=0) (he:n=0∨∃h:n - 1<l.length,l[n - 1]≠0):frontB l=l.take n:=by
 have e:l=l.take n++List.replicate (l.length - n) 0:=by
  apply ext_getElem
  ·simp;omega
  ·intro j h1 h2
   by_cases hj:j<n
   ·rw[getElem_append_left (by simp;omega)];simp
   ·rw[getElem_append_right (by simp;omega),getElem_replicate]
    exact hz j (by omega) h1
 have hdw:∀(k:Nat) (r:U8),(List.replicate k 0++r).dropWhile (· == 0)=r.dropWhile (· == 0):=by
  intro k r
  induction k with
  | zero=>rfl
  | succ k ih=>rw[replicate_succ,cons_append,dropWhile_cons_of_pos (by rfl)];exact ih
 unfold frontB
 conv=>lhs;rw[e]
 rw[reverse_append,reverse_replicate,hdw]
 rcases he with rfl | ⟨h,hne⟩
 ·simp
 ·obtain⟨m,rfl⟩:∃m,n=m+1:=⟨n - 1,by
   rcases Nat.eq_zero_or_pos n with h0 | h0
   ·subst h0
    exact absurd (hz 0 (Nat.le_refl _) (by omega)) hne
   ·omega⟩
  rw[take_succ_eq_append_getElem (by omega),reverse_append,reverse_singleton,singleton_append,dropWhile_cons_of_neg (by simpa using hne)]
  simp
theorem frontB_len (l:U8):(frontB l).length≤l.length:=by
 unfold frontB
 rw[length_reverse]
 have:=(dropWhile_sublist (p:=(· == 0)) (l:=l.reverse)).length_le
 simpa using this
def entB (x:Ent):(List UInt8):=formB x.kind.toNat++(formB x.name.length++x.name)++(formB (frontB x.dig).length++frontB x.dig)
def encB (l:List Ent):(List UInt8):=formB 1++formB l.length++l.flatMap entB
theorem errE_ok:∀(l:List Ent) (a:U8),errE a l=0→∀x∈l,(x.kind=2∨x.kind=1)∧isName x.name=true
 | [],_,_,x,hx=>by cases hx
 | y::l,a,h,x,hx=>by
  simp only[errE] at h
  split at h
  ·rename_i h1
   rcases mem_cons.1 hx with rfl | hx
   ·unfold wrongE at h1
    split at h1
    ·rename_i h2;exact⟨h2.1,h2.2.1⟩
    ·cases h1
   ·exact errE_ok l y.name h x hx
  ·rename_i h1;exact absurd h h1
theorem isName_len{s:U8} (h:isName s=true):s.length≤64:=by
 simp only[isName,Bool.and_eq_true,decide_eq_true_eq] at h
 exact h.1.2.1
theorem entB_len{x:Ent} (hn:x.name.length≤64) (hd:x.dig.length=32):(entB x).length≤123:=by
 have h1:=formB_len x.kind.toNat
 have h2:=formB_len x.name.length
 have h3:=formB_len (frontB x.dig).length
 have h4:=frontB_len x.dig
 simp only[entB,length_append]
 omega
theorem encB_len:∀{l:List Ent},Oks l→(∀x∈l,x.name.length≤64)→(l.flatMap entB).length≤l.length*123
 | [],_,_=>by simp
 | x::l,ho,hn=>by
  have ih:=encB_len (l:=l) (fun y hy=>ho y (by simp[hy])) (fun y hy=>hn y (by simp[hy]))
  have h1:=entB_len (hn x (by simp)) (ho x (by simp)).1
  simp only[flatMap_cons,length_append,length_cons]
  omega
theorem kind_spec (k:Int) (w:World):CP 181 #[.int .i64 k] w (Ret0 (.bool (decide (k=2∨k=1))) w):=by
 have hs:Step [] [] w w:=Step.refl w
 by_cases h:k=1
 ·rw[decide_eq_true (.inr h)]
  refine calls (n:=9) Tryz.func181 rfl rfl rfl ?_
  refine sr<|wA<|wZ<|sr<|wm<|eT<|wm<|wz<|wz<|pT<|wA<|wZ ?_
  refine CW.ret ?_
  refine fin_ret1 rfl ?_
  exact⟨rfl,hs⟩
 ·by_cases h2:k=2
  ·rw[decide_eq_true (.inl h2)]
   refine calls (n:=9) Tryz.func181 rfl rfl rfl ?_
   refine sr<|wA<|wZ<|sr<|wm<|eF<|wm<|wy<|wm<|wy<|eT<|pF<|wA<|wZ ?_
   refine CW.ret ?_
   refine fin_ret1 rfl ?_
   exact⟨rfl,hs⟩
  ·rw[decide_eq_false (fun h'=>h'.elim h2 h)]
   refine calls (n:=9) Tryz.func181 rfl rfl rfl ?_
   refine sr<|wA<|wZ<|sr<|wm<|eF<|wm<|wy<|wm<|wy<|eF<|pF<|wA<|wZ ?_
   refine CW.ret ?_
   refine fin_ret1 rfl ?_
   exact⟨rfl,hs⟩
theorem bytesLess_pre (p a b:U8):Op.bytesLess (p++a) (p++b)=Op.bytesLess a b:=by
 induction p with
 | nil=>rfl
 | cons x p ih=>simp[Op.bytesLess,ih,UInt8.lt_irrefl]
theorem bytesLess_at{s t:U8}{i:Nat} (he:s.take i=t.take i):Op.bytesLess t s=Op.bytesLess (t.drop i) (s.drop i):=by
 conv=>lhs;rw[←take_append_drop i t,←take_append_drop i s,he]
 exact bytesLess_pre _ _ _
theorem above_spec{s t:U8}{b:Bool} (hb:Op.bytesLess t s=b) (w:World) (hls:s.length≤9223372036854775807) (hlt:t.length≤9223372036854775807):CP 195 #[str s,str t] w (Ret0 (.bool b) w):=by
 have hs:Step [] [] w w:=Step.refl w
 refine calls (n:=32) Tryz.func195 rfl rfl rfl ?_
 refine sr<|wA<|wZ<|cq<|sr<|wA<|wZ<|cB<|CW.loop (fun m f w'=>∃i,i≤s.length∧i≤t.length∧m=s.length - i∧Step [] [] w w'∧s.take i=t.take i∧Holds f [(0,str s),(1,str t),(5,.int .i64 i)]) (m:=s.length) ?_ ?_
 ·exact⟨0,by omega,by omega,by omega,hs,rfl,rfl,rfl,rfl,trivial⟩
 ·rintro m f w ⟨i,hi,hi2,rfl,hs,he,hf⟩
  have ob:=hf.chain
  obtain⟨g,rfl⟩:=ob
  have hat:=bytesLess_at he
  refine cq<|sr<|wm<|wm<|wV (run_lenStr u9 rfl)<|wV (run_lss rfl rfl)<|wZ<|CW.condP rfl (fun h=>?_) (fun h=>?_)
  ·have h1:i<s.length:=by omega
   have hc:s[i]?=some s[i]:=getElem?_eq_getElem h1
   by_cases h2:i<t.length
   ·have hd:t[i]?=some t[i]:=getElem?_eq_getElem h2
    rw[drop_eq_getElem_cons h1,drop_eq_getElem_cons h2] at hat
    have n1:s[i].toNat<t[i].toNat↔s[i]<t[i]:=UInt8.lt_iff_toNat_lt.symm
    have n2:t[i].toNat<s[i].toNat↔t[i]<s[i]:=UInt8.lt_iff_toNat_lt.symm
    by_cases hgt:t[i].toNat<s[i].toNat
    ·refine ck<|cq<|cB<|cq<|cq<|CW.quiet mixedP (by kernel_rfl) hs ?_
     refine qm<|qm<|qV (fun w hs=>run_lenStr u9 rfl)<|qV (fun w hs=>run_bF (run_geq rfl rfl) (by omega))<|qm<|qy<|qm<|qy<|qm<|qy<|qV (fun w hs=>run_strIdx u9 rfl rfl (hc))<|qy<|qm<|qy ?_
     refine qm<|qy<|qV (fun w hs=>run_strIdx u9 rfl rfl (hd))<|qy<|qV (fun w hs=>run_bT (run_gtr rfl rfl) (by omega))<|qP<|QL.nil (fun w hs=>?_)
     refine cT rfl<|sr<|wA<|wZ<|CW.ret ?_
     refine fin_ret1 rfl ?_
     obtain rfl:b=true:=by rw[←hb,hat];simp[Op.bytesLess,n2.1 hgt]
     exact⟨rfl,hs⟩
    ·refine ck<|cq<|cB<|cq<|cq<|CW.quiet mixedP (by kernel_rfl) hs ?_
     refine qm<|qm<|qV (fun w hs=>run_lenStr u9 rfl)<|qV (fun w hs=>run_bF (run_geq rfl rfl) (by omega))<|qm<|qy<|qm<|qy<|qm<|qy<|qV (fun w hs=>run_strIdx u9 rfl rfl (hc))<|qy<|qm<|qy ?_
     refine qm<|qy<|qV (fun w hs=>run_strIdx u9 rfl rfl (hd))<|qy<|qV (fun w hs=>run_bF (run_gtr rfl rfl) (by omega))<|qP<|QL.nil (fun w hs=>?_)
     by_cases hl:s[i].toNat<t[i].toNat
     ·refine cF rfl<|ck<|cq<|CW.quiet mixedP (by kernel_rfl) hs ?_
      refine qm<|qm<|qV (fun w hs=>run_strIdx u9 rfl rfl (hc))<|qm<|qm<|qV (fun w hs=>run_strIdx u9 rfl rfl (hd))<|qV (fun w hs=>run_bT (run_lss rfl rfl) (by omega))<|QL.nil (fun w hs=>?_)
      refine cT rfl<|sr<|wA<|wZ<|CW.ret ?_
      refine fin_ret1 rfl ?_
      have hne:¬t[i]=s[i]:=fun e=>by rw[e] at hl;omega
      obtain rfl:b=false:=by
       rw[←hb,hat]
       simp[Op.bytesLess,hne]
       exact UInt8.not_lt.1 (fun h=>hgt (n2.2 h))
      exact⟨rfl,hs⟩
     ·have heq:s[i]=t[i]:=UInt8.toNat_inj.1 (by omega)
      refine cF rfl<|ck<|cq<|CW.quiet mixedP (by kernel_rfl) hs ?_
      refine qm<|qm<|qV (fun w hs=>run_strIdx u9 rfl rfl (hc))<|qm<|qm<|qV (fun w hs=>run_strIdx u9 rfl rfl (hd))<|qV (fun w hs=>run_bF (run_lss rfl rfl) (by omega))<|QL.nil (fun w hs=>?_)
      refine cF rfl<|ck<|cr<|wm<|wP ((i+1:Nat):Int)<|wA<|wZ<|(show _∧_ from⟨rfl,_,?_,i+1,by omega,by omega,rfl,hs,?_,rfl,rfl,rfl,trivial⟩)
      ·omega
      ·rw[take_succ_eq_append_getElem h1,take_succ_eq_append_getElem h2,he,heq]
   ·refine ck<|cq<|cB<|cq<|cq<|CW.quiet mixedP (by kernel_rfl) hs ?_
    refine qm<|qm<|qV (fun w hs=>run_lenStr u9 rfl)<|qV (fun w hs=>run_bT (run_geq rfl rfl) (by omega))<|qm<|qz<|qz<|qz<|qz<|qz<|qz<|qz<|qT<|QL.nil (fun w hs=>?_)
    refine cT rfl<|sr<|wA<|wZ<|CW.ret ?_
    refine fin_ret1 rfl ?_
    obtain rfl:b=true:=by
     rw[←hb,hat,drop_eq_nil_of_le (by omega:t.length≤i),drop_eq_getElem_cons h1]
     rfl
    exact⟨rfl,hs⟩
  ·refine CW.exit<|sr<|wA<|wZ<|CW.ret ?_
   refine fin_ret1 rfl ?_
   obtain rfl:b=false:=by
    rw[←hb,hat,drop_eq_nil_of_le (by omega:s.length≤i)]
    cases List.drop i t <;> rfl
   exact⟨rfl,hs⟩
def lastN (l:List Ent):(List UInt8):=(l.getLast?.map Ent.name).getD []
theorem nameR_spec{v:Value}{l:List Ent}{n:U8}{b:Bool} (hb:(isName n && Op.bytesLess (lastN l) n)=b) (w:World) (hl:Es w v l) (hn:n.length≤9223372036854775807):CP 182 #[v,str n] w (Ret0 (.bool b) w):=by
 have hs:Step [] [] w w:=Step.refl w
 have hbl:=hl.2.2
 obtain⟨a,c,hv⟩:∃a c,v=.slice a l.length c:=by
  rcases hl.cases with⟨_,c,rfl,rfl⟩ | ⟨b,off,c,rfl,_⟩ <;> exact⟨_,_,rfl⟩
 by_cases hnm:isName n=true
 ·by_cases h0:l=[]
  ·subst h0
   subst hv
   obtain rfl:b=true:=by
    rw[←hb,hnm]
    have:n≠[]:=fun e=>by subst e;simp[isName] at hnm
    simpa[lastN] using(bytesLess_nil n).2 this
   refine calls (n:=23) Tryz.func182 rfl rfl rfl ?_
   refine sr<|wA<|wZ<|sr<|wm<|wE rfl (run_call en183 rfl rfl) (refIsName_spec hnm _ hn) ?_
   rintro e w ⟨rfl,hq⟩
   refine⟨_,rfl,?_⟩
   refine wm<|wy<|wm<|wy<|wL u116 rfl<|wy<|wV (run_bT (run_eql rfl rfl) (by rfl))<|wy<|wm<|wz<|wz<|wz<|wz<|wz<|wz<|wz<|wz<|wz<|wy<|pT<|pT<|wA<|wZ ?_
   refine CW.ret ?_
   refine fin_ret1 rfl ?_
   exact⟨rfl,hs.callE hq⟩
  ·have hpos:0<l.length:=length_pos_iff.2 h0
   rcases hl.cases with⟨_,c',hv',rfl⟩ | ⟨bk,off,c',hv',hat⟩
   ·exact absurd rfl h0
   obtain⟨rfl,rfl⟩:a=some ⟨bk,off,none⟩∧c=c':=by rw[hv] at hv';cases hv';exact⟨rfl,rfl⟩
   subst hv
   have hlt:l.length - 1<l.length:=by omega
   have hok:=hl.2.1.get hlt
   have hax:=hat.ent hl.2.1 hlt
   have hla:lastN l=(l[l.length - 1]).name:=by
    unfold lastN
    rw[getLast?_eq_some_getLast h0,getLast_eq_getElem]
    rfl
   obtain rfl:b=Op.bytesLess (l[l.length - 1]).name n:=by rw[←hb,hnm,hla];rfl
   refine calls (n:=23) Tryz.func182 rfl rfl rfl ?_
   refine sr<|wA<|wZ<|sr<|wm<|wE rfl (run_call en183 rfl rfl) (refIsName_spec hnm _ hn) ?_
   rintro e w ⟨rfl,hq⟩
   refine⟨_,rfl,?_⟩
   refine wm<|wy<|wm<|wy<|wL u116 rfl<|wy<|eF<|wy<|wm<|wy<|wm<|wy<|wm<|wy<|wm<|wy<|wL u116 rfl<|wy<|wS ((l.length - 1:Nat):Int)<|wy<|wI u116 ty115 rfl rfl<|wy<|wF 0 u115 rfl ty9 rfl<|wy ?_
   refine wl ty9 rfl (((hax.step (hs.callE hq) (by simp)).cell rfl))<|wy<|wE rfl (run_call en195 rfl rfl) (above_spec rfl _ hn hok.2.2.2) ?_
   rintro e w ⟨rfl,hq2⟩
   refine⟨_,rfl,?_⟩
   refine wy<|pF<|pT<|wA<|wZ<|CW.ret ?_
   refine fin_ret1 rfl ?_
   exact⟨rfl,(hs.callE hq).callE hq2⟩
 ·obtain rfl:b=false:=by rw[←hb];simp[hnm]
  subst hv
  refine calls (n:=23) Tryz.func182 rfl rfl rfl ?_
  refine sr<|wA<|wZ<|sr<|wm<|wE rfl (run_call en183 rfl rfl) (refIsName_spec (by simpa using hnm) _ hn) ?_
  rintro e w ⟨rfl,hq⟩
  refine⟨_,rfl,?_⟩
  refine wm<|wz<|wz<|wz<|wz<|wz<|wz<|wz<|wz<|wz<|wz<|wz<|wz<|wz<|wz<|pF<|wA<|wZ ?_
  refine CW.ret ?_
  refine fin_ret1 rfl ?_
  exact⟨rfl,hs.callE hq⟩
theorem entryR_spec{v:Value}{l:List Ent}{x:Ent}{b:Bool} (hb:decide (wrongE x.kind x.name (lastN l)=0)=b) (w:World) (hl:Es w v l) (hx:x.ok):CP 148 #[v,.agg x.cells.toArray] w (Ret0 (.bool b) w):=by
 have hs:Step [] [] w w:=Step.refl w
 by_cases hk:x.kind=2∨x.kind=1
 ·obtain rfl:b=(isName x.name && Op.bytesLess (lastN l) x.name):=by
   rw[←hb]
   clear hb
   cases h1:isName x.name <;> cases h2:Op.bytesLess (lastN l) x.name <;> simp[wrongE,h1,h2,hk]
  refine calls (n:=14) Tryz.func148 rfl rfl rfl ?_
  refine sr<|WL.box (cs:=x.cells) rfl rfl rfl hs (fun b3 w hs=>?_)
  refine wA<|wZ<|sr<|wF 1 u115 rfl ty3 rfl<|wl ty3 rfl (hs.c0 rfl)<|wE rfl (run_call en181 rfl rfl) (kind_spec _ _) ?_
  rintro e w ⟨rfl,hq⟩
  refine⟨_,rfl,?_⟩
  rw[decide_eq_true hk]
  refine wm<|wy<|wm<|wy<|wF 0 u115 rfl ty9 rfl<|wy<|wl ty9 rfl ((hs.callE hq).c0 rfl)<|wy<|wE rfl (run_call en182 rfl rfl) (nameR_spec rfl _ (hl.step0 (hs.callE hq).clear) hx.2.2.2) ?_
  rintro e w ⟨rfl,hq2⟩
  refine⟨_,rfl,?_⟩
  refine pT<|wA<|wZ<|CW.ret ?_
  refine fin_ret1 rfl ?_
  exact⟨rfl,((hs.callE hq).callE hq2).clear⟩
 ·obtain rfl:b=false:=by rw[←hb];simp[wrongE,hk]
  refine calls (n:=14) Tryz.func148 rfl rfl rfl ?_
  refine sr<|WL.box (cs:=x.cells) rfl rfl rfl hs (fun b3 w hs=>?_)
  refine wA<|wZ<|sr<|wF 1 u115 rfl ty3 rfl<|wl ty3 rfl (hs.c0 rfl)<|wE rfl (run_call en181 rfl rfl) (kind_spec _ _) ?_
  rintro e w ⟨rfl,hq⟩
  refine⟨_,rfl,?_⟩
  rw[decide_eq_false hk]
  refine wm<|wz<|wz<|wz<|wz<|pF<|wA<|wZ<|CW.ret ?_
  refine fin_ret1 rfl ?_
  exact⟨rfl,(hs.callE hq).clear⟩
theorem wrongE_51{k:Int}{n a:U8} (h:wrongE k n a≠0):wrongE k n a=51:=by
 unfold wrongE at *
 split at h <;> simp_all
theorem checkR_spec{v:Value}{l:List Ent}{r:Int} (hr:checkE l=r) (w:World) (hl:Es w v l) (hcap:Room v):CP 106 #[v] w (Ret0 (.int .i64 r) w):=by
 have hs:Step [] [] w w:=Step.refl w
 obtain⟨a,c,hv⟩:∃a c,v=.slice a l.length c:=by
  rcases hl.cases with⟨_,c,rfl,rfl⟩ | ⟨b,off,c,rfl,_⟩ <;> exact⟨_,_,rfl⟩
 by_cases hbig:l.length > 1024
 ·obtain rfl:r=2:=by rw[←hr];simp[checkE,hbig]
  subst hv
  refine calls (n:=22) Tryz.func106 rfl rfl rfl ?_
  refine sr<|wA<|wZ<|cq<|sr<|wm<|wL u116 rfl<|xT<|wZ<|cT rfl<|sr<|wA<|wZ ?_
  refine CW.ret ?_
  refine fin_ret1 rfl ?_
  exact⟨rfl,hs⟩
 ·have hr':errE [] l=r:=by rw[←hr];simp[checkE,hbig]
  subst hv
  refine calls (n:=22) Tryz.func106 rfl rfl rfl ?_
  refine sr<|wA<|wZ<|cq<|sr<|wm<|wL u116 rfl<|xF<|wZ<|cF rfl<|ck<|cq<|cq ?_
  refine cr<|wA<|wZ<|cB<|CW.loop (fun m f w'=>∃k,k≤l.length∧m=l.length - k∧Step [] [] w w'∧errE [] (l.take k)=0∧Holds f [(0,.slice a l.length c),(3,.int .i64 k)]) (m:=l.length) ?_ ?_
  ·exact⟨0,by omega,by omega,hs,rfl,rfl,rfl,trivial⟩
  ·rintro m f w' ⟨k,hk,rfl,hs,he,hf⟩
   have ob:=hf.chain
   obtain⟨g,rfl⟩:=ob
   refine cq<|sr<|wm<|wm<|wL u116 rfl<|wV (run_lss rfl rfl)<|wZ<|CW.condP rfl (fun h=>?_) (fun h=>?_)
   ·have hlt:k<l.length:=by omega
    rcases hl.cases with⟨_,c',hv',rfl⟩ | ⟨b,off,c',hv',hat⟩
    ·simp at hlt
    obtain⟨rfl,rfl⟩:a=some ⟨b,off,none⟩∧c=c':=by cases hv';exact⟨rfl,rfl⟩
    have hok:=hl.2.1.get hlt
    have hax:=hat.ent hl.2.1 hlt
    have hcap:l.length≤c:=hcap
    have hEk:Es w (.slice (some ⟨b,off,none⟩) k c) (l.take k):=by
     refine⟨?_,hl.2.1.take k,by have:=hl.2.2;simp;omega⟩
     have e:(l.take k).length=k:=by simp;omega
     rw[e]
     refine .mk (by rw[rows_len (hl.2.1.take k),e]) ?_
     have h2:rows l=rows (l.take k)++rows (l.drop k):=by rw[←rows_append,take_append_drop]
     rw[h2] at hat
     exact hat.left
    have he':=errE_take l [] k hlt he
    refine ck<|cq<|cB<|cq<|CW.quiet mixedP (by kernel_rfl) hs ?_
    refine qm<|qm<|qV (fun w hs=>run_sliceSl0 (hi:=k) u116 ty115 rfl rfl rfl (by simp) (by omega) (by omega))<|qm<|qm<|qI u116 ty115 rfl rfl<|qV (fun w hs=>run_loadN ty115 rfl (Ent.cells_len hok) (hax.step hs (by simp)))<|QL.enter rfl (fun w=>run_call en148 rfl rfl) (fun w hs=>entryR_spec (l:=l.take k) rfl _ (hEk.step0 hs) hok) ?_
    refine qV (fun w hs=>run_notB rfl)<|QL.nil (fun w hs=>?_)
    refine CW.condP rfl (fun h=>?_) (fun h=>?_)
    ·refine sr<|wA<|wZ<|CW.ret ?_
     refine fin_ret1 rfl ?_
     refine⟨?_,hs⟩
     have hne:wrongE (l[k]).kind (l[k]).name (lastN (l.take k))≠0:=by simpa using h
     rw[←hr',errE_stop l [] (k+1) (by rw[he'];exact hne),he']
     show _=Ending.returned (.int .i64 (wrongE (l[k]).kind (l[k]).name (lastN (l.take k))))
     rw[wrongE_51 hne]
     rfl
    ·refine ck<|cr<|wm<|wP ((k+1:Nat):Int)<|wA<|wZ<|(show _∧_ from⟨rfl,_,?_,k+1,by omega,rfl,hs,?_,rfl,rfl,trivial⟩)
     ·omega
     ·rw[he']
      show wrongE (l[k]).kind (l[k]).name (lastN (l.take k))=0
      simpa using h
   ·refine CW.exit<|sr<|wA<|wZ<|CW.ret ?_
    refine fin_ret1 rfl ?_
    obtain rfl:k=l.length:=by omega
    rw[take_length] at he
    exact⟨by rw[←hr',he];rfl,hs⟩
theorem Step.rotA{S:List Nat}{p:Nat×Obj}{A B:OL}{w0 w:World} (h:Step S (p::(A++B)) w0 w):Step S (A++(B++[p])) w0 w:=by
 have:=h.rot1
 rwa [append_assoc] at this
theorem Step.dropM{S:List Nat}{A B C:OL}{w0 w:World} (h:Step S (A++(B++C)) w0 w):Step S (A++B) w0 w:=by
 rw[←append_assoc] at h
 exact h.dropR
theorem frontR_spec{l:U8} (w0:World) (hl:l.length=32):CP 107 #[.agg (u8s l).toArray] w0 fun e w'=>∃v Lv,e=.returned v∧OwnSl 5 1 v (frontB l).length (u8s (frontB l)) Lv∧Step [] Lv w0 w':=by
 have hs:Step [] [] w0 w0:=Step.refl w0
 refine calls (n:=29) Tryz.func107 rfl rfl rfl ?_
 refine sr<|WL.box (cs:=u8s l) rfl rfl rfl hs (fun b1 w hs=>?_)
 refine wA<|wZ<|sr<|wA<|wZ<|cq<|sr<|wA<|wZ<|cB<|CW.loop (fun m f w'=>∃i n,i≤32∧m=32 - i∧n≤i∧(∀j,n≤j→j<i→(h:j<l.length)→l[j]=0)∧(n=0∨∃h:n - 1<l.length,l[n - 1]≠0)∧Step [] [(b1,blk 44 (u8s l))] w0 w'∧Holds f [(1,pt b1),(3,.int .i64 n),(4,.int .i64 i)]) (m:=32) ?_ ?_
 ·exact⟨0,0,by omega,by omega,by omega,fun j h1 h2=>by omega,.inl rfl,hs,rfl,rfl,rfl,trivial⟩
 ·rintro m f w ⟨i,n,hi,rfl,hn,hz,hne,hs,hf⟩
  have ob:=hf.chain
  obtain⟨g,rfl⟩:=ob
  refine cq<|sr<|wm<|wV (run_lss rfl rfl)<|wZ<|CW.condP rfl (fun h=>?_) (fun h=>?_)
  ·have hlt:i<l.length:=by omega
   have hcell:(u8s l)[i]?=some (.int .u8 (l[i]).toNat):=by simp[u8s,getElem?_eq_getElem hlt]
   by_cases hc:l[i]=0
   ·refine ck<|cq<|cB<|sr<|wm<|wV (run_ixArrN u44 ty5 rfl rfl (by omega))<|wl ty5 rfl (hs.c0 (by rw[Nat.zero_add,Nat.mul_one];exact hcell))<|wV (run_bF (run_neq rfl rfl) (by rw[hc];decide))<|wZ<|cF rfl<|ck<|cr<|wm<|wP ((i+1:Nat):Int)<|wA<|wZ ?_
    refine(show _∧_ from⟨rfl,_,?_,i+1,n,by omega,rfl,by omega,?_,hne,hs,rfl,rfl,rfl,trivial⟩)
    ·omega
    ·intro j h1 h2 h3
     by_cases hj:j=i
     ·subst hj;exact hc
     ·exact hz j h1 (by omega) h3
   ·have hc':¬((l[i].toNat:Int)=0):=fun h=>hc (UInt8.toNat_inj.1 (by simpa using h))
    refine ck<|cq<|cB<|sr<|wm<|wV (run_ixArrN u44 ty5 rfl rfl (by omega))<|wl ty5 rfl (hs.c0 (by rw[Nat.zero_add,Nat.mul_one];exact hcell))<|wV (run_bT (run_neq rfl rfl) (by exact hc'))<|wZ<|cT rfl<|cr<|wm<|wP ((i+1:Nat):Int)<|wA<|wZ<|cr<|wm<|wP ((i+1:Nat):Int)<|wA<|wZ ?_
    refine(show _∧_ from⟨rfl,_,?_,i+1,i+1,by omega,rfl,by omega,?_,.inr ⟨hlt,hc⟩,hs,rfl,rfl,rfl,trivial⟩)
    ·omega
    ·intro j h1 h2 h3
     omega
  ·obtain rfl:i=32:=by omega
   have e:=frontB_of (l:=l) (n:=n) (by omega) (fun j h1 h2=>hz j h1 (by omega) h2) hne
   refine CW.exit<|sr<|wA<|wZ<|cq<|sr<|wA<|wZ<|cB<|CW.loop (fun m f w'=>∃i v Lv,i≤n∧m=n - i∧OwnSl 5 1 v i (u8s (l.take i)) Lv∧Step [] (Lv++[(b1,blk 44 (u8s l))]) w0 w'∧Holds f [(1,pt b1),(3,.int .i64 n),(5,v),(6,.int .i64 i)]) (m:=n) ?_ ?_
   ·exact⟨0,_,[],by omega,by omega,.nil _ _,hs,rfl,rfl,rfl,rfl,trivial⟩
   ·rintro m f w ⟨i,v,Lv,hi,rfl,hv,hs,hf⟩
    have ob:=hf.chain
    obtain⟨g,rfl⟩:=ob
    refine cq<|sr<|wm<|wm<|wV (run_lss rfl rfl)<|wZ<|CW.condP rfl (fun h=>?_) (fun h=>?_)
    ·have hlt:i<l.length:=by omega
     have hcell:(u8s l)[i]?=some (.int .u8 (l[i]).toNat):=by simp[u8s,getElem?_eq_getElem hlt]
     refine ck<|cq<|cB<|cr<|wm<|wm<|wV (run_ixArrN u44 ty5 rfl rfl (by omega))<|wl ty5 rfl (hs.append_comm.c0 (by rw[Nat.zero_add,Nat.mul_one];exact hcell))<|WL.buildSlice u76 ty5 rfl (by decide) rfl (by rfl) rfl hs (fun b26 w hs=>?_)
     refine WL.append u76 u76 ty5 rfl (by decide) rfl rfl (hv) (hs.rotA) (.own1 hs rfl) (Cells1.u8s [l[i]]) (by omega) rfl (fun v27 Lv27 w hv27 hs=>?_)
     refine wA<|wZ<|cr<|wm<|wP ((i+1:Nat):Int)<|wA<|wZ<|(show _∧_ from⟨rfl,_,?_,i+1,_,_,by omega,rfl,?_,hs.dropM,rfl,rfl,rfl,rfl,trivial⟩)
     ·omega
     ·rw[take_succ_eq_append_getElem hlt,u8s_append]
      exact hv27
    ·obtain rfl:i=n:=by omega
     refine CW.exit<|sr<|wm<|wA<|wZ<|CW.ret ?_
     refine fin_ret1 rfl ?_
     refine⟨_,_,rfl,?_,hs.dropR⟩
     rw[e,length_take,Nat.min_eq_left (by omega)]
     exact hv
theorem formR_big{u:Nat} (h:¬u<248):1≤nbF u 8:=by
 have h0:u / 256 ^ 0≠0:=by simp;omega
 have:∀m,1≤nbF u (m+1):=by
  intro m
  induction m with
  | zero=>unfold nbF;rw[if_neg h0];omega
  | succ m ih=>
   unfold nbF
   split
   ·exact ih
   ·omega
 exact this 7
theorem formR_spec (u:Nat) (w0:World) (hu:u<18446744073709551616):CP 179 #[.int .u64 u] w0 fun e w'=>∃v Lv,e=.returned v∧OwnSl 5 1 v (formB u).length (u8s (formB u)) Lv∧Step [] Lv w0 w':=by
 have hs:Step [] [] w0 w0:=Step.refl w0
 by_cases hsm:u<248
 ·have e:formB u=[UInt8.ofNat u]:=by simp[formB,hsm]
  rw[e]
  refine calls (n:=40) Tryz.func179 rfl rfl rfl ?_
  refine sr<|wA<|wZ<|cq<|sr<|wm<|iT<|wZ<|cT rfl<|sr<|wm<|wV (run_convU8 u240 u5 rfl) ?_
  refine WL.buildSlice u76 ty5 rfl (by decide) rfl (by rfl) rfl hs (fun b11 w hs=>?_)
  refine wA<|wZ<|CW.ret ?_
  refine fin_ret1 rfl ?_
  exact⟨_,_,rfl,.mk rfl,hs⟩
 ·have hbig:=formR_big hsm
  have hle:=nbF_le u 8
  have e:formB u=UInt8.ofNat (247+nbF u 8)::be u (nbF u 8):=by simp[formB,hsm]
  refine calls (n:=40) Tryz.func179 rfl rfl rfl ?_
  refine sr<|wA<|wZ<|cq<|sr<|wm<|iF<|wZ<|cF rfl<|ck<|sr<|wA<|wZ<|cq<|sr<|wA<|wZ<|cB ?_
  refine CW.loop (fun k f w'=>∃j c v Lv,j=k∧j≤8∧(c=[]∧nbF u 8=nbF u j∧u / 256 ^ j=0∨c≠[]∧c++be u j=be u (nbF u 8))∧c.length≤8 - j∧OwnSl 5 1 v c.length (u8s c) Lv∧Step [] Lv w0 w'∧Holds f [(0,.int .u64 u),(3,v),(4,.int .i64 ((j:Int) - 1))]) (m:=8) ?_ ?_
  ·exact⟨8,[],_,[],rfl,by omega,.inl ⟨rfl,rfl,Nat.div_eq_of_lt hu⟩,by simp,.nil _ _,hs,rfl,rfl,rfl,trivial⟩
  ·rintro k f w ⟨j,c,v,Lv,rfl,hj,hc,hcl,hv,hs,hf⟩
   have ob:=hf.chain
   obtain⟨g,rfl⟩:=ob
   have ob:=hv.form
   obtain⟨va,vc,rfl⟩:=ob
   refine cq<|sr<|wm<|wV (run_geq rfl rfl)<|wZ<|CW.condP rfl (fun h=>?_) (fun h=>?_)
   ·have ob:∃q,j=q+1:=⟨j - 1,by omega⟩
    obtain⟨q,rfl⟩:=ob
    refine ck<|cq<|cB<|sr<|wm<|wm<|wV (run_mul (c:=((8*q:Nat):Int)) rfl rfl (by omega) (by omega))<|wV (run_shrN rfl rfl (by simp only[IntKind.bits];omega))<|wV (run_convU8 u240 u5 rfl)<|wA<|wZ ?_
    have hst:∀w,Step [] Lv w0 w→Step [] (Lv++[]) w0 w:=fun w h=>by rwa [append_nil]
    rcases hc with⟨hc0,hn,hd⟩ | ⟨hne,hc⟩
    ·have hlt:u / 256 ^ q<256:=by
      rw[Nat.pow_succ,←Nat.div_div_eq_div_mul] at hd
      omega
     have hby:(UInt8.ofNat (u / 256 ^ q)).toNat=u / 256 ^ q:=UInt8.toNat_ofNat_of_lt' hlt
     by_cases hz:u / 256 ^ q=0
     ·refine sr<|wm<|wL u76 rfl<|wV (run_bF (run_gtr rfl rfl) (by simp[hc0]))<|wm<|wy<|wm<|wy<|wV (run_bF (run_neq rfl rfl) (by rw[hz];decide))<|pF<|wZ<|cF rfl<|ck ?_
      refine cr<|wm<|wS ((q:Int) - 1)<|wA<|wZ<|(show _∧_ from⟨rfl,_,?_,q,c,_,_,rfl,by omega,.inl ⟨hc0,?_,hz⟩,by simp[hc0],hv,hs,rfl,rfl,rfl,trivial⟩)
      ·omega
      ·rw[hn]
       conv=>lhs;unfold nbF
       rw[if_pos hz]
     ·refine sr<|wm<|wL u76 rfl<|wV (run_bF (run_gtr rfl rfl) (by simp[hc0]))<|wm<|wy<|wm<|wy<|nT<|pF<|wZ<|cT rfl<|cr<|wm<|wm ?_
      refine WL.buildSlice u76 ty5 rfl (by decide) rfl (by rfl) rfl hs (fun b30 w hs=>?_)
      refine WL.append u76 u76 ty5 rfl (by decide) rfl rfl (hv) (hs.rot1) (.own1 hs rfl) (Cells1.u8s [UInt8.ofNat (u / 256 ^ q)]) (by omega) rfl (fun v31 Lv31 w hv31 hs=>?_)
      refine wA<|wZ<|cr<|wm<|wS ((q:Int) - 1)<|wA<|wZ<|(show _∧_ from⟨rfl,_,?_,q,c++[UInt8.ofNat (u / 256 ^ q)],_,_,rfl,by omega,.inr ⟨by simp,?_⟩,?_,?_,hs.dropR,rfl,rfl,rfl,trivial⟩)
      ·omega
      ·have:nbF u (q+1)=q+1:=by unfold nbF;rw[if_neg hz]
       rw[hn,this,hc0]
       rfl
      ·simp;omega
      ·rw[u8s_append,length_append];exact hv31
    ·refine sr<|wm<|wL u76 rfl<|wV (run_bT (run_gtr rfl rfl) (by have:=length_pos_iff.2 hne;omega))<|wm<|wz<|wz<|pT<|wZ<|cT rfl<|cr<|wm<|wm ?_
     refine WL.buildSlice u76 ty5 rfl (by decide) rfl (by rfl) rfl hs (fun b30 w hs=>?_)
     refine WL.append u76 u76 ty5 rfl (by decide) rfl rfl (hv) (hs.rot1) (.own1 hs rfl) (Cells1.u8s [UInt8.ofNat (u / 256 ^ q)]) (by omega) rfl (fun v31 Lv31 w hv31 hs=>?_)
     refine wA<|wZ<|cr<|wm<|wS ((q:Int) - 1)<|wA<|wZ<|(show _∧_ from⟨rfl,_,?_,q,c++[UInt8.ofNat (u / 256 ^ q)],_,_,rfl,by omega,.inr ⟨by simp,?_⟩,?_,?_,hs.dropR,rfl,rfl,rfl,trivial⟩)
     ·omega
     ·rw[←hc];simp[be]
     ·simp;omega
     ·rw[u8s_append,length_append];exact hv31
   ·obtain rfl:j=0:=by omega
    rcases hc with⟨rfl,hn,_⟩ | ⟨hne,hc⟩
    ·rw[hn] at hbig
     simp[nbF] at hbig
    ·obtain rfl:c=be u (nbF u 8):=by simpa[be] using hc
     rw[be_len] at *
     refine CW.exit<|sr<|wm<|wL u76 rfl<|wP ((247+nbF u 8:Nat):Int)<|wV (run_convU8 u3 u5 rfl)<|WL.buildSlice u76 ty5 rfl (by decide) rfl (by rfl) rfl hs (fun b36 w hs=>?_)
     refine wA<|wZ<|sr<|wm<|wm<|WL.append u76 u76 ty5 rfl (by decide) rfl rfl (.mk (xs:=u8s [UInt8.ofNat (247+nbF u 8)]) rfl) (hs) (hv.sl hs.rot1) (Cells1.u8s _) (by omega) rfl (fun v39 Lv39 w hv39 hs=>?_)
     refine wA<|wZ<|CW.ret ?_
     refine fin_ret1 rfl ?_
     rw[e]
     refine⟨_,_,rfl,?_,hs.dropR⟩
     show OwnSl 5 1 v39 (UInt8.ofNat (247+nbF u 8)::be u (nbF u 8)).length _ _
     rw[length_cons,be_len,Nat.add_comm (nbF u 8) 1]
     exact hv39
structure Wit where
 k:Int
 n:Nat
 bv:Value
 b:(List UInt8)
def Wit.cells (x:Wit):List Value:=[.int .i64 x.k,.int .i64 x.n,x.bv]
def Wit.ok (w:World) (x:Wit):Prop:=x.k=1∧x.n≤9223372036854775807∧x.bv=.slice none 0 0∨(x.k=4∨x.k=5)∧x.n=0∧x.b.length≤70368744177664∧Sl w 1 x.bv x.b.length (u8s x.b)
def Wit.put (x:Wit):(List UInt8):=if x.k=1 then formB x.n else formB x.b.length++x.b
def rowsI (l:List Wit):List Value:=l.flatMap Wit.cells
theorem rowsI_len (l:List Wit):(rowsI l).length=l.length*3:=by
 induction l with
 | nil=>rfl
 | cons x l ih=>
  simp only[rowsI,flatMap_cons,length_append,length_cons] at *
  have:x.cells.length=3:=rfl
  omega
theorem rowsI_append (a b:List Wit):rowsI (a++b)=rowsI a++rowsI b:=by simp[rowsI]
theorem At.item{w:World}{b off:Nat}{l:List Wit} (ha:At w b off (rowsI l)){k:Nat} (hk:k<l.length):At w b (off+k*3) (l[k]).cells:=by
 have e:l=l.take k++l[k]::l.drop (k+1):=by rw[←drop_eq_getElem_cons hk,take_append_drop]
 have e2:rowsI (l.take k++l[k]::l.drop (k+1))=rowsI (l.take k)++((l[k]).cells++rowsI (l.drop (k+1))):=by rw[rowsI_append];rfl
 have e3:rowsI l=rowsI (l.take k)++((l[k]).cells++rowsI (l.drop (k+1))):=by rw[←e2,←e]
 rw[e3] at ha
 have:=ha.right.left
 rw[rowsI_len,length_take,Nat.min_eq_left (Nat.le_of_lt hk)] at this
 exact this
theorem Wit.ok.step{S:List Nat}{L:OL}{w w':World}{x:Wit} (h:x.ok w) (hs:Step S L w w') (hS:x.b=[]∨Outside x.bv S):x.ok w':=by
 rcases h with h | ⟨h1,h2,h3,h4⟩
 ·exact .inl h
 ·refine .inr ⟨h1,h2,h3,?_⟩
  rcases hS with hb | hS
  ·obtain⟨hl,h | ⟨b,off,c,hv,hat⟩⟩:=h4
   ·exact⟨hl,.inl h⟩
   ·refine⟨hl,.inr ⟨b,off,c,hv,?_⟩⟩
    rw[hb]
    exact At.nil
  ·exact h4.step hs hS
theorem put_spec{x:Wit} (w0:World) (hx:x.ok w0):CP 145 #[.agg x.cells.toArray] w0 fun e w'=>∃v Lv,e=.returned v∧OwnSl 5 1 v x.put.length (u8s x.put) Lv∧Step [] Lv w0 w':=by
 have hs:Step [] [] w0 w0:=Step.refl w0
 obtain⟨k,n,bv,b⟩:=x
 rcases hx with⟨hk,hn,hbv⟩ | ⟨hk,hn,hb,hsl⟩
 ·simp only at hk hn hbv
  subst hk
  subst hbv
  have e:Wit.put ⟨1,n,.slice none 0 0,b⟩=formB n:=rfl
  rw[e]
  refine calls (n:=41) Tryz.func145 rfl rfl rfl ?_
  refine sr<|WL.box (cs:=[.int .i64 1,.int .i64 n,.slice none 0 0]) rfl rfl rfl hs (fun b1 w hs=>?_)
  refine wA<|wZ<|cq<|sr<|wF 0 u188 rfl ty3 rfl<|wl ty3 rfl (hs.c0 rfl)<|wZ<|cB<|sr<|eT<|wA<|wZ ?_
  refine cT rfl<|sr<|wF 1 u188 rfl ty3 rfl<|wl ty3 rfl (hs.c0 rfl)<|wV (run_convU64 u3 u240 rfl (by omega))<|wE rfl (run_call en179 rfl rfl) (formR_spec n _ (by omega)) ?_
  rintro e w ⟨v',Lv',rfl,hv',hq⟩
  refine⟨_,rfl,?_⟩
  refine wA<|wZ<|CW.ret ?_
  refine fin_ret1 rfl ?_
  exact⟨_,_,rfl,hv',(hs.call0 hq).dropR⟩
 ·simp only at hk hn hb hsl
  subst hn
  have e:Wit.put ⟨k,0,bv,b⟩=formB b.length++b:=by
   unfold Wit.put
   rw[if_neg (by show ¬k=1;omega)]
  have hfl:=formB_len b.length
  rw[e]
  obtain⟨ba,bc,rfl⟩:∃a c,bv=.slice a b.length c:=by
   obtain⟨_,⟨_,c,rfl,h0⟩ | ⟨bb,off,c,rfl,_⟩⟩:=hsl
   ·exact⟨_,_,by rw[h0]⟩
   ·exact⟨_,_,rfl⟩
  refine calls (n:=41) Tryz.func145 rfl rfl rfl ?_
  refine sr<|WL.box (cs:=[.int .i64 k,.int .i64 (0:Nat),.slice ba b.length bc]) rfl rfl rfl hs (fun b1 w hs=>?_)
  refine wA<|wZ<|cq<|sr<|wF 0 u188 rfl ty3 rfl<|wl ty3 rfl (hs.c0 rfl)<|wZ<|cB<|sr<|eF<|wA<|wZ ?_
  refine cF rfl<|sr<|eF<|wA<|wZ<|cF rfl<|sr<|eF<|wA<|wZ<|cF rfl<|cq ?_
  refine cr<|eF<|wA<|wZ<|cF rfl<|ck<|sr<|wF 2 u188 rfl ty76 rfl<|wl ty76 rfl (hs.c0 rfl)<|wL u76 rfl<|wV (run_convU64 u3 u240 rfl (by omega))<|wE rfl (run_call en179 rfl rfl) (formR_spec b.length _ (by omega)) ?_
  rintro e w ⟨v',Lv',rfl,hv',hq⟩
  refine⟨_,rfl,?_⟩
  refine wA<|wZ ?_
  replace hs:=hs.call0 hq
  refine sr<|wm<|wF 2 u188 rfl ty76 rfl<|wl ty76 rfl (hs.append_comm.c0 rfl)<|WL.append u76 u76 ty5 rfl (by decide) rfl rfl (hv') (hs) ((hsl.step0 hs.clear)) (Cells1.u8s b) (by omega) rfl (fun v40 Lv40 w hv40 hs=>?_)
  refine wA<|wZ<|CW.ret ?_
  refine fin_ret1 rfl ?_
  refine⟨_,_,rfl,?_,hs.dropR⟩
  rw[length_append,u8s_append]
  exact hv40
theorem Wit.put_len_take{l:List Wit} (k:Nat):(((l.take k).flatMap Wit.put).length≤(l.flatMap Wit.put).length):=by
 conv=>rhs;rw[←take_append_drop k l]
 rw[flatMap_append,length_append]
 omega
theorem doneR_spec{v:Value}{l:List Wit} (w0:World) (hl:Sl w0 3 v l.length (rowsI l)) (hok:∀x∈l,x.ok w0) (hsum:(l.flatMap Wit.put).length≤4194304) (hlen:l.length≤4398046511104) :
  CP 101 #[v] w0 fun e w'=>∃v' Lv,e=.returned (.tuple #[v',.int .i64 0])∧OwnSl 5 1 v' (l.flatMap Wit.put).length (u8s (l.flatMap Wit.put)) Lv∧Step [] Lv w0 w':=by
 have hs:Step [] [] w0 w0:=Step.refl w0
 obtain⟨a,c,rfl⟩:∃a c,v=.slice a l.length c:=by
  obtain⟨_,⟨_,c,rfl,h0⟩ | ⟨b,off,c,rfl,_⟩⟩:=hl
  ·exact⟨_,_,by rw[h0]⟩
  ·exact⟨_,_,rfl⟩
 refine calls (n:=42) Tryz.func101 rfl rfl rfl ?_
 refine sr<|wA<|wA<|wZ<|sr<|wA<|wZ<|cq<|sr<|wA<|wZ<|cB ?_
 refine CW.loop (fun m f w'=>∃k v Lv,k≤l.length∧m=l.length - k∧OwnSl 5 1 v ((l.take k).flatMap Wit.put).length (u8s ((l.take k).flatMap Wit.put)) Lv∧Step [] Lv w0 w'∧Holds f [(0,.slice a l.length c),(4,v),(5,.int .i64 k)]) (m:=l.length) ?_ ?_
 ·exact⟨0,_,[],by omega,by omega,.nil _ _,hs,rfl,rfl,rfl,trivial⟩
 ·rintro m f w ⟨k,v,Lv,hk,rfl,hv,hs,hf⟩
  have ob:=hf.chain
  obtain⟨g,rfl⟩:=ob
  have ob:=hv.form
  obtain⟨va,vc,rfl⟩:=ob
  have hcap:=Wit.put_len_take (l:=l) k
  refine cq<|sr<|wm<|wm<|wL u190 rfl<|wV (run_lss rfl rfl)<|wZ<|CW.condP rfl (fun h=>?_) (fun h=>?_)
  ·have hlt:k<l.length:=by omega
   obtain⟨_,⟨_,c1,h1,h0⟩ | ⟨lb,lo,c1,h1,hat⟩⟩:=hl
   ·omega
   injection h1 with h1 _ _
   subst h1
   have hax:=hat.item hlt
   have hxo:=hok _ (getElem_mem hlt)
   have hcap':=Wit.put_len_take (l:=l) (k+1)
   have hfm:(l.take (k+1)).flatMap Wit.put=(l.take k).flatMap Wit.put++(l[k]).put:=by rw[take_succ_eq_append_getElem hlt,flatMap_append];simp
   rw[hfm,length_append] at hcap'
   generalize hX:l[k]=x at *
   by_cases h1:x.k=1
   ·refine ck<|cq<|cB<|cq<|sr<|wm<|wm<|wI u190 ty188 rfl rfl<|wF 0 u188 rfl ty3 rfl<|wl ty3 rfl (((hax.step hs.clear (by simp)).cell rfl))<|wV (run_bT (run_eql rfl rfl) (by exact h1))<|wm<|wy<|wm<|wy<|wm<|wy<|wI u190 ty188 rfl rfl<|wy<|wF 1 u188 rfl ty3 rfl<|wy<|wl ty3 rfl (((hax.step hs.clear (by simp)).cell (j:=1) rfl))<|wy<|lF<|pT<|wZ ?_
    refine cF rfl<|ck<|sr<|wm<|wm<|wI u190 ty188 rfl rfl<|wR ty188 rfl rfl (hax.step hs.clear (by simp))<|wE rfl (run_call en145 rfl rfl) (put_spec _ (hxo.step hs.clear (.inr (outside_nil _)))) ?_
    rintro e w ⟨v',Lv',rfl,hv',hq⟩
    refine⟨_,rfl,?_⟩
    refine wA<|wZ ?_
    have ob:=hv'.form
    obtain⟨va',vc',rfl⟩:=ob
    replace hs:=(hs.call0 hq).append_comm
    refine cq<|sr<|wm<|wL u76 rfl<|wm<|wL u76 rfl<|wV (run_add rfl rfl rfl (by omega))<|xF<|wZ<|cF rfl<|ck<|cr<|wm<|wm ?_
    refine WL.append u76 u76 ty5 rfl (by decide) rfl rfl (hv) (hs) (hv'.sl hs.append_comm) (Cells1.u8s _) (by omega) rfl (fun v40 Lv40 w hv40 hs=>?_)
    refine wA<|wZ<|cr<|wm<|wP ((k+1:Nat):Int)<|wA<|wZ<|(show _∧_ from⟨rfl,_,?_,k+1,_,_,by omega,rfl,?_,hs.dropR,rfl,rfl,rfl,trivial⟩)
    ·omega
    ·rw[hfm,length_append,u8s_append]
     exact hv40
   ·refine ck<|cq<|cB<|cq<|sr<|wm<|wm<|wI u190 ty188 rfl rfl<|wF 0 u188 rfl ty3 rfl<|wl ty3 rfl (((hax.step hs.clear (by simp)).cell rfl))<|wV (run_bF (run_eql rfl rfl) (by exact h1))<|wm<|wz<|wz<|wz<|wz<|wz<|wz<|pF<|wZ ?_
    refine cF rfl<|ck<|sr<|wm<|wm<|wI u190 ty188 rfl rfl<|wR ty188 rfl rfl (hax.step hs.clear (by simp))<|wE rfl (run_call en145 rfl rfl) (put_spec _ (hxo.step hs.clear (.inr (outside_nil _)))) ?_
    rintro e w ⟨v',Lv',rfl,hv',hq⟩
    refine⟨_,rfl,?_⟩
    refine wA<|wZ ?_
    have ob:=hv'.form
    obtain⟨va',vc',rfl⟩:=ob
    replace hs:=(hs.call0 hq).append_comm
    refine cq<|sr<|wm<|wL u76 rfl<|wm<|wL u76 rfl<|wV (run_add rfl rfl rfl (by omega))<|xF<|wZ<|cF rfl<|ck<|cr<|wm<|wm ?_
    refine WL.append u76 u76 ty5 rfl (by decide) rfl rfl (hv) (hs) (hv'.sl hs.append_comm) (Cells1.u8s _) (by omega) rfl (fun v40 Lv40 w hv40 hs=>?_)
    refine wA<|wZ<|cr<|wm<|wP ((k+1:Nat):Int)<|wA<|wZ<|(show _∧_ from⟨rfl,_,?_,k+1,_,_,by omega,rfl,?_,hs.dropR,rfl,rfl,rfl,trivial⟩)
    ·omega
    ·rw[hfm,length_append,u8s_append]
     exact hv40
  ·obtain rfl:k=l.length:=by omega
   rw[take_length] at *
   refine CW.exit<|sr<|wm<|wA<|wA<|wZ<|CW.ret ?_
   refine fin_ret2 rfl ?_
   exact⟨_,_,rfl,hv,hs⟩
theorem bld_num (k n:Int) (w:World):(Instr.build 188 #[(0,.int .i64 k),(1,.int .i64 n)]).run Tryz.prog w=.ok (.agg #[.int .i64 k,.int .i64 n,.slice none 0 0]) w:=by kernel_rfl
theorem bld_bytes (k:Int) (a:Option Addr) (m c:Nat) (w:World):(Instr.build 188 #[(0,.int .i64 k),(2,.slice a m c)]).run Tryz.prog w=.ok (.agg #[.int .i64 k,.int .i64 0,.slice a m c]) w:=by kernel_rfl
theorem filled2 (z1 z2 z3 a1 a2 a3 b1 b2 b3:Value):Filled 3 2 [z1,z2,z3] [(0,.agg #[a1,a2,a3]),(1,.agg #[b1,b2,b3])] [a1,a2,a3,b1,b2,b3]:=by
 simp[Filled,Instr.fill,Value.cells,List.replicate]
theorem filled3 (z1 z2 z3 a1 a2 a3 b1 b2 b3 c1 c2 c3:Value):Filled 3 3 [z1,z2,z3] [(0,.agg #[a1,a2,a3]),(1,.agg #[b1,b2,b3]),(2,.agg #[c1,c2,c3])] [a1,a2,a3,b1,b2,b3,c1,c2,c3]:=by
 simp[Filled,Instr.fill,Value.cells,List.replicate]
theorem encodeR_bad{v:Value}{l:List Ent} (w0:World) (hl:Es w0 v l) (hcap:Room v) (hc:checkE l≠0):CP 57 #[v] w0 (Ret0 (.tuple #[.slice none 0 0,.int .i64 (checkE l)]) w0):=by
 have hs:Step [] [] w0 w0:=Step.refl w0
 refine calls (n:=50) Tryz.func57 rfl rfl rfl ?_
 refine sr<|wA<|wA<|wZ<|sr<|wm<|wE rfl (run_call en106 rfl rfl) (checkR_spec rfl _ hl hcap) ?_
 rintro e w ⟨rfl,hq⟩
 refine⟨_,rfl,?_⟩
 refine wA<|wZ<|cq<|sr<|wm<|wV (run_bT (run_neq rfl rfl) (by exact hc))<|wZ<|cT rfl<|sr<|wm<|wA<|wA<|wZ ?_
 refine CW.ret ?_
 refine fin_ret2 rfl ?_
 exact⟨rfl,hs.callE hq⟩
theorem Wit.keep{S:List Nat}{L1 L2:OL}{w w':World}{x:Wit} (h:x.ok w) (hS:x.b=[]∨Outside x.bv S) (hs:Step S (L1++L2) w w'):x.b=[]∨Outside x.bv (L1.map (·.1)):=by
 rcases hS with hS | hS
 ·exact .inl hS
 ·by_cases hb:x.b=[]
  ·exact .inl hb
  ·refine .inr ?_
   rcases h with⟨_,_,h⟩ | ⟨_,_,_,h⟩
   ·rw[h];trivial
   ·exact Outside.fresh h (by simpa[u8s] using hb) hs hS (fun k hk=>by simp only[map_append,mem_append];exact .inl hk)
theorem encodeR_ok{v:Value}{l:List Ent} (w0:World) (hl:Es w0 v l) (hcap:Room v) (hc:checkE l=0):CP 57 #[v] w0 fun e w'=>∃v' Lv,e=.returned (.tuple #[v',.int .i64 0])∧OwnSl 5 1 v' (encB l).length (u8s (encB l)) Lv∧Step [] Lv w0 w':=by
 have hs:Step [] [] w0 w0:=Step.refl w0
 have hlen:l.length≤1024:=by
  unfold checkE at hc
  split at hc
  ·cases hc
  ·omega
 have herr:errE [] l=0:=by
  unfold checkE at hc
  rwa [if_neg (by omega)] at hc
 have hall:=errE_ok l [] herr
 have hnl:∀x∈l,x.name.length≤64:=fun x hx=>isName_len (hall x hx).2
 have hbl:=encB_len hl.2.1 hnl
 obtain⟨a,c,hv⟩:∃a c,v=.slice a l.length c:=by
  rcases hl.cases with⟨_,c,rfl,rfl⟩ | ⟨b,off,c,rfl,_⟩ <;> exact⟨_,_,rfl⟩
 subst hv
 refine calls (n:=50) Tryz.func57 rfl rfl rfl ?_
 refine sr<|wA<|wA<|wZ<|sr<|wm<|wE rfl (run_call en106 rfl rfl) (checkR_spec hc _ hl hcap) ?_
 rintro e w ⟨rfl,hq⟩
 refine⟨_,rfl,?_⟩
 refine wA<|wZ ?_
 replace hs:=hs.callE hq
 refine cq<|sr<|wm<|nF<|wZ<|cF rfl<|ck<|sr<|wV (run_build rfl (bld_num _ _ _))<|wm<|wL u116 rfl<|wV (run_build rfl (bld_num _ _ _)) ?_
 refine WL.buildSlice (cs:=[.int .i64 1,.int .i64 1,.slice none 0 0,.int .i64 1,.int .i64 l.length,.slice none 0 0]) u190 ty188 rfl (by decide) rfl (filled2 _ _ _ _ _ _ _ _ _) rfl hs (fun b16 w hs=>?_)
 refine wA<|wZ<|cq<|sr<|wA<|wZ<|cB<|CW.loop (fun m f w'=>∃k its t Lt,k≤l.length∧m=l.length - k∧its.length=2+3*k∧its.flatMap Wit.put=formB 1++formB l.length++(l.take k).flatMap entB∧OwnSl 188 3 t its.length (rowsI its) Lt∧Step [] Lt w0 w'∧(∀x∈its,x.ok w'∧(x.b=[]∨Outside x.bv (Lt.map (·.1))))∧Holds f [(0,.slice a l.length c),(5,t),(6,.int .i64 k)]) (m:=l.length) ?_ ?_
 ·refine⟨0,_,_,_,by omega,by omega,?_,?_,.mk (xs:=rowsI [⟨1,1,.slice none 0 0,[]⟩,⟨1,l.length,.slice none 0 0,[]⟩]) rfl,hs,?_,rfl,rfl,rfl,trivial⟩
  ·rfl
  ·simp[Wit.put]
  ·intro x hx
   simp only[mem_cons,not_mem_nil,or_false] at hx
   rcases hx with rfl | rfl
   ·exact⟨.inl ⟨rfl,by decide,rfl⟩,.inl rfl⟩
   ·exact⟨.inl ⟨rfl,by show l.length≤_;omega,rfl⟩,.inl rfl⟩
 ·rintro m f w1 ⟨k,its,t,Lt,hk,rfl,hil,hput,ht,hs0,hits,hf⟩
  have ob:=hf.chain
  obtain⟨g,rfl⟩:=ob
  refine cq<|sr<|wm<|wm<|wL u116 rfl<|wV (run_lss rfl rfl)<|wZ<|CW.condP rfl (fun h=>?_) (fun h=>?_)
  ·have hlt:k<l.length:=by omega
   rcases hl.cases with⟨_,c',hv',rfl⟩ | ⟨b,off,c',hv',hat⟩
   ·simp at hlt
   obtain⟨rfl,rfl⟩:a=some ⟨b,off,none⟩∧c=c':=by cases hv';exact⟨rfl,rfl⟩
   have hok:=hl.2.1.get hlt
   have hax:=hat.ent hl.2.1 hlt
   have hmem:=getElem_mem hlt
   have hbo:b∉Lt.map (·.1):=by
    intro hb
    have ob:=mem_map.1 hb
    obtain⟨p,hp,hpb⟩:=ob
    have h1:=hax.lt (by simp[Ent.cells])
    rcases hs0.new p hp with h2 | h2
    ·cases h2
    ·have hpb:p.1=b:=hpb;omega
   have hax1:∀{w:World}{L:OL},Step (Lt.map (·.1)) L w1 w→At w b (off+k*34) (l[k]).cells:=fun hw=>(hax.step hs0 (by simp)).step hw hbo
   have hs:=hs0.own0
   have hfm:(l.take (k+1)).flatMap entB=(l.take k).flatMap entB++entB l[k]:=by rw[take_succ_eq_append_getElem hlt,flatMap_append];simp
   have hnk:=hnl _ hmem
   have hkd:=(hall _ hmem).1
   have hfl:=frontB_len (l[k]).dig
   generalize hX:l[k]=x at *
   obtain⟨nm,kd,dg⟩:=x
   have hkd:kd=2∨kd=1:=hkd
   have ob:∃kn:Nat,kd=kn:=⟨kd.toNat,by omega⟩
   obtain⟨kn,rfl⟩:=ob
   have hc1:∀(fa:Option Addr) (fc fl b n c:Nat) (k:Nat),Cells1 [.int .i64 1,.int .i64 k,.slice none 0 0,.int .i64 5,.int .i64 0,.slice (some ⟨b,0,none⟩) n c,.int .i64 4,.int .i64 0,.slice fa fl fc]:=by
    intro fa fc fl b n c k v hv
    simp only[mem_cons,not_mem_nil,or_false] at hv
    rcases hv with rfl | rfl | rfl | rfl | rfl | rfl | rfl | rfl | rfl <;> rfl
   refine ck<|cq<|cB<|CW.any (A:=fun w=>Step (Lt.map (·.1)) [] w1 w) (C:=fun w=>Step (Lt.map (·.1)) [] w1 w) 1000000 24 mixedP rfl ?_
   replace hs:=hs.drew
   refine aM 0 rfl<|aM 1 rfl<|aM 2 rfl<|aV 3 rfl (fun w hs=>run_ixSlN u116 ty115 rfl rfl (by omega))<|aF 4 rfl 1 u115 rfl ty3 rfl<|aL 5 rfl ty3 rfl (fun w hs=>(hax1 hs).cell (j:=1) rfl)<|aV 6 rfl (fun w hs=>run_build rfl (bld_num _ _ _))<|aM 7 rfl<|aM 8 rfl<|aV 9 rfl (fun w hs=>run_ixSlN u116 ty115 rfl rfl (by omega))<|aF 10 rfl 0 u115 rfl ty9 rfl<|aL 11 rfl ty9 rfl (fun w hs=>(hax1 hs).cell (j:=0) rfl)<|aM 14 rfl<|aM 15 rfl ?_
   refine aV 16 rfl (fun w hs=>run_ixSlN u116 ty115 rfl rfl (by omega))<|aF 17 rfl 2 u115 rfl ty44 rfl<|aV 18 rfl (fun w hs=>run_loadN ty44 rfl (show(u8s dg).length=32 by simpa[u8s] using hok.1) ((hax1 hs).drop 2))<|AL.two 12 19 (by kernel_rfl) rfl rfl (hs.clear) (hs.clear) ?_ ?_
   ·refine WL.toBytes u9 u76 u5 rfl rfl hs (fun b35 cap35 more35 w hcap35 hs=>?_)
    refine wZ<|⟨rfl,?_⟩
    refine aV 13 rfl (fun w hs=>run_build rfl (bld_bytes _ _ _ _ _))<|AL.one 19 (by kernel_rfl) rfl (hs.clear) (hs.clear) ?_
    refine wE rfl (run_call en107 rfl rfl) (frontR_spec (l:=dg) _ hok.1) ?_
    rintro e w ⟨v',Lv',rfl,hv',hq⟩
    refine⟨_,rfl,?_⟩
    obtain⟨fa,fc,rfl⟩:=hv'.form
    replace hs:=(hs.call0 hq).front Lv'
    refine wZ<|⟨rfl,?_⟩
    refine aV 20 rfl (fun w hs=>run_build rfl (bld_bytes _ _ _ _ _))<|AL.one 21 (by kernel_rfl) rfl (hs.clear) (hs.clear) ?_
    refine WL.buildSlice (cs:=[.int .i64 1,.int .i64 kn,.slice none 0 0,.int .i64 5,.int .i64 0,.slice (some ⟨b35,0,none⟩) nm.length cap35,.int .i64 4,.int .i64 0,.slice fa (frontB dg).length fc]) u190 ty188 rfl (by decide) rfl (filled3 _ _ _ _ _ _ _ _ _ _ _ _) rfl hs (fun b44 w hs=>?_)
    refine wZ<|⟨rfl,?_⟩
    refine AL.one 22 (by kernel_rfl) rfl (hs.clear) (hs.clear) ?_
    refine WL.append u190 u190 ty188 rfl (by decide) rfl rfl (ht) (Step.append_comm (L1:=_::_::Lv') hs) (.own1 hs rfl) (hc1 fa fc (frontB dg).length b35 nm.length cap35 kn) (by omega) rfl (fun v45 Lv45 w hv45 hs=>?_)
    refine wZ<|⟨rfl,?_⟩
    refine aA 23 rfl<|AL.end (by kernel_rfl) (hs.clear) (hs.clear) ?_
    refine cr<|wm<|wP ((k+1:Nat):Int)<|wA<|wZ ?_
    have hs1:Step [] Lv45 w0 w:=by
     have:=Step.call (L1:=Lt) (L:=[]) (by rwa [append_nil]) hs.dropR
     rwa [append_nil] at this
    have hc:=hs.append_comm
    refine(show _∧_ from⟨rfl,_,?_,k+1,its++[⟨1,kn,.slice none 0 0,[]⟩,⟨5,0,.slice (some ⟨b35,0,none⟩) nm.length cap35,nm⟩,⟨4,0,.slice fa (frontB dg).length fc,frontB dg⟩],_,_,by omega,rfl,?_,?_,?_,hs1,?_,rfl,rfl,rfl,trivial⟩)
    ·omega
    ·rw[length_append,hil]
     show _+3=_
     omega
    ·rw[hfm,flatMap_append,hput]
     simp[Wit.put,entB]
    ·have h2:=hv45
     rw[length_append,rowsI_append]
     exact h2
    ·intro x hx
     rcases mem_append.1 hx with hx | hx
     ·exact⟨(hits x hx).1.step hs (hits x hx).2,Wit.keep (hits x hx).1 (hits x hx).2 hs⟩
     ·simp only[mem_cons,not_mem_nil,or_false] at hx
      rcases hx with rfl | rfl | rfl
      ·refine⟨.inl ⟨rfl,?_,rfl⟩,.inl rfl⟩
       show kn≤_
       omega
      ·refine⟨.inr ⟨.inr rfl,rfl,?_,.mk (by simp[u8s]) (At.of_blkM (Step.dropL (L1:=Lv45) hs).tail.hd).left⟩,.inr ?_⟩
       ·show nm.length≤_
        have:nm.length≤64:=hnk
        omega
       ·exact hc.disj (b35,_) (mem_cons_of_mem _ mem_cons_self)
      ·refine⟨.inr ⟨.inl rfl,rfl,?_,hv'.sl (Step.dropL (L1:=[_,_]) hc)⟩,.inr (hv'.outside fun p hp=>hc.disj p (by simp[hp]))⟩
       show(frontB dg).length≤_
       have:=frontB_len dg
       have:dg.length=32:=hok.1
       omega
   ·refine wE rfl (run_call en107 rfl rfl) (frontR_spec (l:=dg) _ hok.1) ?_
    rintro e w ⟨v',Lv',rfl,hv',hq⟩
    refine⟨_,rfl,?_⟩
    obtain⟨fa,fc,rfl⟩:=hv'.form
    replace hs:=hs.call0 hq
    refine wZ<|⟨rfl,?_⟩
    refine aV 20 rfl (fun w hs=>run_build rfl (bld_bytes _ _ _ _ _))<|AL.one 12 (by kernel_rfl) rfl (hs.clear) (hs.clear) ?_
    refine WL.toBytes u9 u76 u5 rfl rfl hs (fun b35 cap35 more35 w hcap35 hs=>?_)
    refine wZ<|⟨rfl,?_⟩
    refine aV 13 rfl (fun w hs=>run_build rfl (bld_bytes _ _ _ _ _))<|AL.one 21 (by kernel_rfl) rfl (hs.clear) (hs.clear) ?_
    refine WL.buildSlice (cs:=[.int .i64 1,.int .i64 kn,.slice none 0 0,.int .i64 5,.int .i64 0,.slice (some ⟨b35,0,none⟩) nm.length cap35,.int .i64 4,.int .i64 0,.slice fa (frontB dg).length fc]) u190 ty188 rfl (by decide) rfl (filled3 _ _ _ _ _ _ _ _ _ _ _ _) rfl hs (fun b44 w hs=>?_)
    refine wZ<|⟨rfl,?_⟩
    refine AL.one 22 (by kernel_rfl) rfl (hs.clear) (hs.clear) ?_
    refine WL.append u190 u190 ty188 rfl (by decide) rfl rfl (ht) (Step.append_comm (L1:=_::_::Lv') hs) (.own1 hs rfl) (hc1 fa fc (frontB dg).length b35 nm.length cap35 kn) (by omega) rfl (fun v45 Lv45 w hv45 hs=>?_)
    refine wZ<|⟨rfl,?_⟩
    refine aA 23 rfl<|AL.end (by kernel_rfl) (hs.clear) (hs.clear) ?_
    refine cr<|wm<|wP ((k+1:Nat):Int)<|wA<|wZ ?_
    have hs1:Step [] Lv45 w0 w:=by
     have:=Step.call (L1:=Lt) (L:=[]) (by rwa [append_nil]) hs.dropR
     rwa [append_nil] at this
    have hc:=hs.append_comm
    refine(show _∧_ from⟨rfl,_,?_,k+1,its++[⟨1,kn,.slice none 0 0,[]⟩,⟨5,0,.slice (some ⟨b35,0,none⟩) nm.length cap35,nm⟩,⟨4,0,.slice fa (frontB dg).length fc,frontB dg⟩],_,_,by omega,rfl,?_,?_,?_,hs1,?_,rfl,rfl,rfl,trivial⟩)
    ·omega
    ·rw[length_append,hil]
     show _+3=_
     omega
    ·rw[hfm,flatMap_append,hput]
     simp[Wit.put,entB]
    ·have h2:=hv45
     rw[length_append,rowsI_append]
     exact h2
    ·intro x hx
     rcases mem_append.1 hx with hx | hx
     ·exact⟨(hits x hx).1.step hs (hits x hx).2,Wit.keep (hits x hx).1 (hits x hx).2 hs⟩
     ·simp only[mem_cons,not_mem_nil,or_false] at hx
      rcases hx with rfl | rfl | rfl
      ·refine⟨.inl ⟨rfl,?_,rfl⟩,.inl rfl⟩
       show kn≤_
       omega
      ·refine⟨.inr ⟨.inr rfl,rfl,?_,.mk (by simp[u8s]) (At.of_blkM (Step.dropL (L1:=Lv45) hs).tail.hd).left⟩,.inr ?_⟩
       ·show nm.length≤_
        have:nm.length≤64:=hnk
        omega
       ·exact hc.disj (b35,_) (mem_cons_of_mem _ mem_cons_self)
      ·refine⟨.inr ⟨.inl rfl,rfl,?_,hv'.sl (Step.dropL (L1:=[_,_]) hc)⟩,.inr (hv'.outside fun p hp=>hc.disj p (by simp[hp]))⟩
       show(frontB dg).length≤_
       have:=frontB_len dg
       have:dg.length=32:=hok.1
       omega
  ·obtain rfl:k=l.length:=by omega
   rw[take_length] at hput
   have he:its.flatMap Wit.put=encB l:=hput
   have h1:=formB_len 1
   have h2:=formB_len l.length
   refine CW.exit<|sr<|wm<|wE rfl (run_call en101 rfl rfl) (doneR_spec (l:=its) _ (ht.sl (L:=[]) (by rw[append_nil];exact hs0)) (fun x hx=>(hits x hx).1) (by rw[hput];simp only[length_append];omega) (by omega)) ?_
   rintro e w ⟨v',Lv',rfl,hv',hq2⟩
   refine⟨_,rfl,?_⟩
   refine wx rfl rfl<|wx rfl rfl<|wA<|wA<|wZ<|CW.ret ?_
   refine fin_ret2 rfl ?_
   rw[he] at hv'
   exact⟨v',Lv',rfl,hv',(Step.call0 hs0 hq2).dropR⟩
theorem OwnSl.es{E:TypeId}{v:Value}{l:List Ent}{Lv L:OL}{S:List Nat}{w0 w:World} (h:OwnSl E 34 v l.length (rows l) Lv) (ho:Oks l) (hl:l.length≤9223372036854775807) (hs:Step S (Lv++L) w0 w):Es w v l:=⟨h.sl hs,ho,hl⟩
end Go.Gx
namespace Go.Gx
def beVal (l:(List UInt8)):Nat:=l.foldl (fun u c=>u*256+c.toNat) 0
def numberP (bs:(List UInt8)) (p:Nat):Except Int (Nat×Nat):=
 if bs.length≤p then .error 11
 else if (bs.getD p 0).toNat<248 then .ok ((bs.getD p 0).toNat,p+1)
 else if bs.length<p+1+((bs.getD p 0).toNat - 247) then .error 11
 else if bs.getD (p+1) 0=0∨beVal ((bs.drop (p+1)).take ((bs.getD p 0).toNat - 247))<248 then .error 12
 else .ok (beVal ((bs.drop (p+1)).take ((bs.getD p 0).toNat - 247)),p+1+((bs.getD p 0).toNat - 247))
def numP (bs:(List UInt8)) (p:Nat):Except Int (Nat×Nat):=
 match numberP bs p with
 | .error e=>.error e
 | .ok (u,q)=>if 9223372036854775808≤u then .error 12 else .ok (u,q)
def bytesP (bs:(List UInt8)) (p:Nat):Except Int ((List UInt8)×Nat):=
 match numP bs p with
 | .error e=>.error e
 | .ok (n,q)=>if bs.length<q+n then .error 11 else .ok ((bs.drop q).take n,q+n)
def mostP (m:Nat) (bs:(List UInt8)) (p:Nat):Except Int (Nat×Nat):=
 match numP bs p with
 | .error e=>.error e
 | .ok (n,q)=>if m<n then .error 2 else .ok (n,q)
theorem beVal_append (l:U8) (c:UInt8):beVal (l++[c])=beVal l*256+c.toNat:=by simp[beVal]
theorem beVal_lt (l:U8):beVal l<256 ^ l.length:=by
 have:∀n (l:U8),l.length=n→beVal l<256 ^ n:=by
  intro n
  induction n with
  | zero=>intro l hl;rw[List.eq_nil_of_length_eq_zero hl];decide
  | succ n ih=>
   intro l hl
   have hne:l≠[]:=fun e=>by rw[e] at hl;cases hl
   rw[←List.dropLast_concat_getLast hne,beVal_append]
   have h1:=ih l.dropLast (by rw[List.length_dropLast];omega)
   have h2:=(l.getLast hne).toNat_lt
   rw[Nat.pow_succ]
   omega
 exact this _ l rfl
theorem numberP_ok{bs:U8}{p u q:Nat} (h:numberP bs p=.ok (u,q)):q≤bs.length∧p<q∧u<18446744073709551616:=by
 unfold numberP at h
 have hc:=(bs.getD p 0).toNat_lt
 split at h
 ·cases h
 split at h
 ·injection h with h;injection h with h1 h2;omega
 split at h
 ·cases h
 split at h
 ·cases h
 ·injection h with h;injection h with h1 h2
  have h3:=beVal_lt ((bs.drop (p+1)).take ((bs.getD p 0).toNat - 247))
  have h4:((bs.drop (p+1)).take ((bs.getD p 0).toNat - 247)).length≤8:=by rw[List.length_take];exact Nat.le_trans (Nat.min_le_left _ _) (by omega)
  have h5:256 ^ ((bs.drop (p+1)).take ((bs.getD p 0).toNat - 247)).length≤256 ^ 8:=Nat.pow_le_pow_right (by decide) h4
  have h6:(256:Nat) ^ 8=18446744073709551616:=by decide
  omega
theorem numP_ok{bs:U8}{p u q:Nat} (h:numP bs p=.ok (u,q)):q≤bs.length∧p<q∧u<9223372036854775808:=by
 unfold numP at h
 split at h
 ·cases h
 ·rename_i h1
  have:=numberP_ok h1
  split at h
  ·cases h
  ·injection h with h;injection h with h2 h3;omega
theorem bytesP_ok{bs s:U8}{p q:Nat} (h:bytesP bs p=.ok (s,q)):q≤bs.length∧p<q:=by
 unfold bytesP at h
 split at h
 ·cases h
 ·rename_i h1
  have:=numP_ok h1
  split at h
  ·cases h
  ·injection h with h;injection h with h2 h3;omega
theorem mostP_ok{bs:U8}{m p u q:Nat} (h:mostP m bs p=.ok (u,q)):q≤bs.length∧p<q∧u≤m:=by
 unfold mostP at h
 split at h
 ·cases h
 ·rename_i h1
  have:=numP_ok h1
  split at h
  ·cases h
  ·injection h with h;injection h with h2 h3;omega
def errs:List Int:=[2,11,12]
theorem numberP_err{bs:U8}{p:Nat}{e:Int} (h:numberP bs p=.error e):e=11∨e=12:=by
 unfold numberP at h
 split at h
 ·injection h with h;exact .inl h.symm
 split at h
 ·cases h
 split at h
 ·injection h with h;exact .inl h.symm
 split at h
 ·injection h with h;exact .inr h.symm
 ·cases h
theorem numP_err{bs:U8}{p:Nat}{e:Int} (h:numP bs p=.error e):e=11∨e=12:=by
 unfold numP at h
 split at h
 ·rename_i h1;injection h with h;subst h;exact numberP_err h1
 ·split at h
  ·injection h with h;exact .inr h.symm
  ·cases h
end Go.Gx
namespace Go.Gx
open Go.Proofs List
def RdB (b:Nat) (bv:Value) (p:Nat):Nat×Obj:=(b,blk 266 [bv,.int .i64 p,.bool false,.int .i64 0])
def RF (b:Nat) (bv:Value) (p:Nat) (e:Int):Nat×Obj:=(b,blk 266 [bv,.int .i64 p,.bool true,.int .i64 e])
def pv (b:Nat):Value:=.iface 268 (.agg #[.pointer (some ⟨b,0,none⟩)])
def pch (b:Nat):List PanicEntry:=[{ v:=pv b,recovered:=false }]
structure RdOk (w:World) (b:Nat) (bs:(List UInt8)) (bv:Value) (p:Nat):Prop where
 own:Step [b] [RdB b bv p] w w
 sl:Sl w 1 bv bs.length (u8s bs)
 out:Outside bv [b]
 room:Room bv
 len:bs.length≤4194304
def Thrown (b:Nat) (bv:Value) (er:Int) (w0:World):Ending→World→Prop:=fun e w'=>∃p,e=.panicked (pch b)∧Step [b] [RF b bv p er] w0 w'
theorem RdOk.next {w w':World}{b p q:Nat}{bs:U8}{bv:Value}{L:OL} (h:RdOk w b bs bv p) (hs:Step [b] (RdB b bv q::L) w w'):RdOk w' b bs bv q:=
 ⟨Step.own (L1:=[_]) hs,h.sl.step hs h.out,h.out,h.room,h.len⟩
theorem fail_none{b p:Nat}{bs:U8}{bv:Value} (w0:World) (h:RdOk w0 b bs bv p):CP 127 #[pt b,.int .i64 0] w0 fun e w'=>e=.returned (.tuple #[])∧Step [b] [RdB b bv p] w0 w':=by
 have hs:=h.own
 unfold RdB at hs
 refine calls (n:=23) Tryz.func127 rfl rfl rfl ?_
 refine sr<|wm<|wn rfl<|wF 2 u266 rfl ty4 rfl<|wl ty4 rfl (hs.c0 rfl)<|wN rfl<|wm<|wy<|wm<|wy<|nF<|pT<|wZ ?_
 refine cF rfl<|ck<|fin_end0 rfl ?_
 exact⟨rfl,hs⟩
theorem bld_ended (b:Nat) (w:World):(Instr.build 268 #[(0,pt b)]).run Tryz.prog w=.ok (.agg #[pt b]) w:=by kernel_rfl
theorem fail_throw{b p:Nat}{bs:U8}{bv:Value}{er:Int} (w0:World) (h:RdOk w0 b bs bv p) (he:er≠0):CP 127 #[pt b,.int .i64 er] w0 (Thrown b bv er w0):=by
 have hs:=h.own
 unfold RdB at hs
 refine calls (n:=23) Tryz.func127 rfl rfl rfl ?_
 refine sr<|wm<|wn rfl<|wF 2 u266 rfl ty4 rfl<|wl ty4 rfl (hs.c0 rfl)<|wN rfl<|wm<|wy<|wm<|wy<|wV (run_bT (run_neq rfl rfl) (by exact he))<|pT<|wZ ?_
 refine cT rfl<|sr<|wm<|wm<|wm<|wn rfl<|wF 2 u266 rfl ty4 rfl<|ws1 ty4 rfl rfl (rfl) (hs) (fun w hs=>?_)
 refine wn rfl<|wF 3 u266 rfl ty36 rfl<|ws1 ty36 rfl rfl (rfl) (hs) (fun w hs=>?_)
 refine wZ<|cr<|wm<|wV (run_build rfl (bld_ended _ _))<|wV (run_mkIface u268 rfl)<|WL.panic (run_panicI rfl) ?_
 exact fin_panic ⟨p,rfl,hs⟩
theorem RdOk.form{w:World}{b p:Nat}{bs:U8}{bv:Value} (h:RdOk w b bs bv p):∃a c,bv=.slice a bs.length c:=by
 have ob:=h.sl
 obtain⟨_,⟨_,c,rfl,h0⟩ | ⟨bb,off,c,rfl,_⟩⟩:=ob
 ·exact⟨_,_,by rw[h0]⟩
 ·exact⟨_,_,rfl⟩
theorem take_ok{b p k:Nat}{bs:U8}{bv:Value} (w0:World) (h:RdOk w0 b bs bv p) (hk:p+k≤bs.length) (hne:0<bs.length):CP 178 #[pt b,.int .i64 k] w0 fun e w'=>∃a c,e=.returned (.slice a k c)∧Sl w' 1 (.slice a k c) k (u8s ((bs.drop p).take k))∧Outside (.slice a k c) [b]∧Step [b] [RdB b bv (p+k)] w0 w':=by
 have hs:=h.own
 unfold RdB at hs
 have hlen:=h.len
 have ob:=id h.sl
 obtain⟨_,⟨_,c,rfl,h0⟩ | ⟨bb,off,c,rfl,hat⟩⟩:=ob
 ·omega
 have hc:bs.length≤c:=h.room
 have hbb:bb∉[b]:=h.out
 have hcut:cutSl 1 bb off p (p+k) c=.slice (some ⟨bb,if c=p then off else off+p*1,none⟩) k (c - p):=by
  rw[cutSl,show p+k - p=k by omega]
 refine calls (n:=44) Tryz.func178 rfl rfl rfl ?_
 refine sr<|wA<|wZ<|cq<|cq<|CW.quiet mixedP (by kernel_rfl) hs ?_
 refine qm<|qm<|qn rfl<|qF 0 u266 rfl ty76 rfl<|qL ty76 rfl (fun w hs=>hs.c0 rfl)<|qV (fun w hs=>run_lenSl u76 rfl)<|qm<|qn rfl<|qF 1 u266 rfl ty3 rfl<|qL ty3 rfl (fun w hs=>hs.c0 rfl)<|qV (fun w hs=>run_sub rfl rfl rfl (by omega))<|qV (fun w hs=>run_bF (run_gtr rfl rfl) (by omega))<|QL.nil (fun w hs=>?_)
 refine cF rfl<|ck<|cq<|CW.quiet mixedP (by kernel_rfl) hs ?_
 refine qm<|qn rfl<|qF 0 u266 rfl ty76 rfl<|qL ty76 rfl (fun w hs=>hs.c0 rfl)<|qm<|qn rfl<|qF 1 u266 rfl ty3 rfl<|qL ty3 rfl (fun w hs=>hs.c0 rfl)<|qm<|qn rfl<|qF 1 u266 rfl ty3 rfl<|qL ty3 rfl (fun w hs=>hs.c0 rfl)<|qm<|qV (fun w hs=>run_add (c:=((p+k:Nat):Int)) rfl rfl (by omega) (by omega)) ?_
 refine qV (fun w hs=>run_sliceSlE (lo:=p) (hi:=p+k) (m:=c) u76 ty5 rfl rfl rfl rfl (by simp) (by omega) (by omega) (by omega) hcut)<|qA<|QL.nil (fun w hs=>?_)
 refine sr<|wm<|wn rfl<|wF 1 u266 rfl ty3 rfl<|wl ty3 rfl (hs.c0 rfl)<|wm<|wP ((p+k:Nat):Int)<|wn rfl<|wF 1 u266 rfl ty3 rfl<|ws1 ty3 rfl rfl (rfl) (hs) (fun w hs=>?_)
 refine wZ<|sr<|wm<|wA<|wZ<|CW.ret ?_
 refine fin_ret1 rfl ?_
 refine⟨_,_,rfl,?_,hbb,hs⟩
 refine .mk (by simp[u8s];omega) ?_
 have hat':=hat.step hs hbb
 split
 ·rename_i hm
  obtain rfl:k=0:=by omega
  exact At.nil
 ·have:=(hat'.drop p).take k
  rw[Nat.mul_one]
  simpa[u8s,map_drop,map_take] using this
theorem take_err{b p k:Nat}{bs:U8}{bv:Value} (w0:World) (h:RdOk w0 b bs bv p) (hp:p≤bs.length) (hk:bs.length<p+k) (hkb:k≤9223372036854775807):CP 178 #[pt b,.int .i64 k] w0 (Thrown b bv 11 w0):=by
 have ob:=h.form
 obtain⟨a,c,rfl⟩:=ob
 have hs:=h.own
 unfold RdB at hs
 have hlen:=h.len
 refine calls (n:=44) Tryz.func178 rfl rfl rfl ?_
 refine sr<|wA<|wZ<|cq<|cq<|CW.quiet mixedP (by kernel_rfl) hs ?_
 refine qm<|qm<|qn rfl<|qF 0 u266 rfl ty76 rfl<|qL ty76 rfl (fun w hs=>hs.c0 rfl)<|qV (fun w hs=>run_lenSl u76 rfl)<|qm<|qn rfl<|qF 1 u266 rfl ty3 rfl<|qL ty3 rfl (fun w hs=>hs.c0 rfl)<|qV (fun w hs=>run_sub rfl rfl rfl (by omega))<|qV (fun w hs=>run_bT (run_gtr rfl rfl) (by omega))<|QL.nil (fun w hs=>?_)
 refine cT rfl<|cr<|wm<|WL.enterX (run_call en127 rfl rfl) (fail_throw (bs:=bs) (er:=11) _ (h.next hs) (by decide)) ?_
 rintro e w ⟨p',rfl,hq⟩
 refine⟨_,rfl,?_⟩
 exact fin_panic ⟨p',rfl,Step.call (L1:=[RdB b _ p]) hs hq⟩
section
variable{P:Program}{f:Slots}{w:World}{d:Option Tmp}{ty:TypeId}{pos:String}{af:Array Edge}{x y:Operand}{T T':TypeId}
theorem wrap_u64{a:Nat} (h:a<18446744073709551616):IntKind.u64.wrap (a:Int)=a:=by
 have e:(2:Int) ^ IntKind.u64.bits=18446744073709551616:=by decide
 simp only[IntKind.wrap,IntKind.signed,Bool.false_and,Bool.false_eq_true,if_false,e]
 omega
theorem run_shl8{a:Nat}{k:IntKind} (hx:ev f x=.int .u64 a) (hy:ev f y=.int k 8) (ha:a<72057594037927936) :
  (execOp (ev f) ⟨d,.binOp .shl T x y T',ty,pos,af,none⟩).run P w=.ok (.value (.int .u64 (a*256:Nat))) w:=by
 rw[run_shl hx hy (by decide)]
 have e:(2:Int) ^ min (8:Int).toNat IntKind.u64.bits=256:=by decide
 rw[e,show(a:Int)*256=((a*256:Nat):Int) by simp,wrap_u64 (by omega)]
theorem run_orB{a c:Nat} (hx:ev f x=.int .u64 (a*256:Nat)) (hy:ev f y=.int .u64 c) (ha:a<72057594037927936) (hc:c<256) :
  (execOp (ev f) ⟨d,.binOp .or T x y T',ty,pos,af,none⟩).run P w=.ok (.value (.int .u64 (a*256+c:Nat))) w:=by
 have e1:(BitVec.ofInt IntKind.u64.bits ((a*256:Nat):Int) ||| BitVec.ofInt IntKind.u64.bits (c:Int)).toNat=a*256+c:=by
  rw[BitVec.ofInt_natCast,BitVec.ofInt_natCast,BitVec.toNat_or,BitVec.toNat_ofNat,BitVec.toNat_ofNat]
  have h64:2 ^ IntKind.u64.bits=18446744073709551616:=by decide
  rw[h64,Nat.mod_eq_of_lt (by omega),Nat.mod_eq_of_lt (by omega)]
  have:=Nat.two_pow_add_eq_or_of_lt (b:=c) (i:=8) (by omega) a
  rw[Nat.mul_comm a 256]
  exact this.symm
 simp only[execOp,hx,hy,Sem.run_bind]
 have hg:(eqGuard .or T x y (.int .u64 (a*256:Nat)) (.int .u64 c)).run P w=.ok () w:=by simp[eqGuard]
 simp only[hg,Result.andThen_ok,binOp,Op.intBits,e1]
 rw[wrap_u64 (by omega)]
 simp
end
def NumR (b:Nat) (bv:Value) (w0:World) (k:Nat→Value):Except Int (Nat×Nat)→Ending→World→Prop
 | .ok (u,q),e,w'=>e=.returned (k u)∧Step [b] [RdB b bv q] w0 w'
 | .error er,e,w'=>Thrown b bv er w0 e w'
theorem NumR.ok{b:Nat}{bv:Value}{w0 w':World}{k:Nat→Value}{e:Ending}{r:Except Int (Nat×Nat)}{u q:Nat} (hr:r=.ok (u,q)) (he:e=.returned (k u)) (hs:Step [b] [RdB b bv q] w0 w'):NumR b bv w0 k r e w':=by subst hr;exact⟨he,hs⟩
theorem NumR.err{b:Nat}{bv:Value}{w0 w':World}{k:Nat→Value}{ed:Ending}{r:Except Int (Nat×Nat)}{er:Int} (hr:r=.error er) (h:Thrown b bv er w0 ed w'):NumR b bv w0 k r ed w':=by subst hr;exact h
theorem Thrown.on{b p:Nat}{bv:Value}{er:Int}{w0 w w':World}{L:OL}{e:Ending} (hs:Step [b] (RdB b bv p::L) w0 w) (h:Thrown b bv er w e w'):Thrown b bv er w0 e w':=by
 obtain⟨p',he,h⟩:=h
 exact⟨p',he,(Step.call (L1:=[RdB b bv p]) (L:=L) hs h).dropR⟩
theorem number_spec{b p:Nat}{bs:U8}{bv:Value} (w0:World) (h:RdOk w0 b bs bv p) (hpl:p≤bs.length):CP 160 #[pt b] w0 (NumR b bv w0 (fun u=>.int .u64 u) (numberP bs p)):=by
 have hs:=h.own
 have hlen:=h.len
 by_cases hp:bs.length≤p
 ·have e:numberP bs p=.error 11:=by unfold numberP;rw[if_pos hp]
  refine calls (n:=48) Tryz.func160 rfl rfl rfl ?_
  refine sr<|wA<|wZ<|sr<|wm<|WL.enterX (run_call en178 rfl rfl) (take_err (bs:=bs) (k:=1) _ h hpl (by omega) (by omega)) ?_
  rintro e w ⟨p',rfl,hq⟩
  refine⟨_,rfl,?_⟩
  exact fin_panic (.err e ⟨p',rfl,hq⟩)
 ·have hp':p<bs.length:=by omega
  have hg:=getD_of hp'
  have hcl:=(bs[p]).toNat_lt
  have hd1:(bs.drop p).take 1=[bs[p]]:=by rw[drop_eq_getElem_cons hp'];rfl
  by_cases hc:(bs[p]).toNat<248
  ·have e:numberP bs p=.ok ((bs[p]).toNat,p+1):=by unfold numberP;rw[if_neg hp,hg,if_pos hc]
   refine calls (n:=48) Tryz.func160 rfl rfl rfl ?_
   refine sr<|wA<|wZ<|sr<|wm<|wE rfl (run_call en178 rfl rfl) (take_ok (bs:=bs) (k:=1) _ h (by omega) (by omega)) ?_
   rintro e w ⟨a,c,rfl,hsl,ho,hq⟩
   refine⟨_,rfl,?_⟩
   refine wA<|wZ ?_
   rw[hd1] at hsl
   have ob:=cell_u8 (i:=0) hsl (by simp)
   obtain⟨bk,off,rfl,hcell⟩:=ob
   simp only[getElem_cons_zero] at hcell
   refine cq<|sr<|wm<|wV (run_ixSlN (i:=0) u76 ty5 rfl rfl (by omega))<|wl ty5 rfl (hcell)<|lT<|wZ<|cT rfl<|sr<|wm<|wV (run_ixSlN (i:=0) u76 ty5 rfl rfl (by omega))<|wl ty5 rfl (hcell)<|wV (run_convU64 u5 u240 rfl (by omega))<|wA<|wZ ?_
   refine CW.ret ?_
   refine fin_ret1 rfl ?_
   exact .ok e rfl hq
  ·have ob:∃k,(bs[p]).toNat - 247=k:=⟨_,rfl⟩
   obtain⟨k,hk⟩:=ob
   have hk1:1≤k∧k≤8:=by omega
   by_cases hk2:bs.length<p+1+k
   ·have e:numberP bs p=.error 11:=by unfold numberP;rw[if_neg hp,hg,if_neg hc,hk,if_pos hk2]
    refine calls (n:=48) Tryz.func160 rfl rfl rfl ?_
    refine sr<|wA<|wZ<|sr<|wm<|wE rfl (run_call en178 rfl rfl) (take_ok (bs:=bs) (k:=1) _ h (by omega) (by omega)) ?_
    rintro e w ⟨a,c,rfl,hsl,ho,hq⟩
    refine⟨_,rfl,?_⟩
    refine wA<|wZ ?_
    rw[hd1] at hsl
    have ob:=cell_u8 (i:=0) hsl (by simp)
    obtain⟨bk,off,rfl,hcell⟩:=ob
    simp only[getElem_cons_zero] at hcell
    refine cq<|sr<|wm<|wV (run_ixSlN (i:=0) u76 ty5 rfl rfl (by omega))<|wl ty5 rfl (hcell)<|lF<|wZ<|cF rfl<|ck<|sr<|wm<|wm<|wV (run_ixSlN (i:=0) u76 ty5 rfl rfl (by omega))<|wl ty5 rfl (hcell)<|wV (run_convI64 u5 u3 rfl (by omega))<|wS (k:Int) ?_
    refine WL.enterX (run_call en178 rfl rfl) (take_err (bs:=bs) (k:=k) _ (h.next hq) (by omega) (by omega) (by omega)) ?_
    rintro e w ⟨p',rfl,hq2⟩
    refine⟨_,rfl,?_⟩
    exact fin_panic (.err e (.on hq ⟨p',rfl,hq2⟩))
   ·have ob:∃r,(bs.drop (p+1)).take k=r:=⟨_,rfl⟩
    obtain⟨r,hr⟩:=ob
    have hrl:r.length=k:=by rw[←hr];simp;omega
    have hg1:bs.getD (p+1) 0=r[0]:=by
     rw[getD_of (by omega)]
     simp[←hr]
    have hnum:numberP bs p=if r[0]=0∨beVal r<248 then .error 12 else .ok (beVal r,p+1+k):=by
     unfold numberP
     rw[if_neg hp,hg,if_neg hc,hk,if_neg hk2,hr,hg1]
    refine calls (n:=48) Tryz.func160 rfl rfl rfl ?_
    refine sr<|wA<|wZ<|sr<|wm<|wE rfl (run_call en178 rfl rfl) (take_ok (bs:=bs) (k:=1) _ h (by omega) (by omega)) ?_
    rintro e w ⟨a,c,rfl,hsl,ho,hq⟩
    refine⟨_,rfl,?_⟩
    refine wA<|wZ ?_
    rw[hd1] at hsl
    have ob:=cell_u8 (i:=0) hsl (by simp)
    obtain⟨bk,off,rfl,hcell⟩:=ob
    simp only[getElem_cons_zero] at hcell
    refine cq<|sr<|wm<|wV (run_ixSlN (i:=0) u76 ty5 rfl rfl (by omega))<|wl ty5 rfl (hcell)<|lF<|wZ<|cF rfl<|ck<|sr<|wm<|wm<|wV (run_ixSlN (i:=0) u76 ty5 rfl rfl (by omega))<|wl ty5 rfl (hcell)<|wV (run_convI64 u5 u3 rfl (by omega))<|wS (k:Int) ?_
    refine wE rfl (run_call en178 rfl rfl) (take_ok (bs:=bs) (k:=k) _ (h.next hq) (by omega) (by omega)) ?_
    rintro e w ⟨a2,c2,rfl,hsl2,ho2,hq2⟩
    refine⟨_,rfl,?_⟩
    refine wA<|wZ ?_
    rw[hr] at hsl2
    have hq3:=Step.call (L1:=[RdB b bv (p+1)]) (L:=[]) hq hq2
    have hsl3:Sl w 1 (.slice a2 k c2) k (u8s r):=hsl2
    have ob:=cell_u8 (i:=0) hsl3 (by omega)
    obtain⟨bk2,off2,rfl,hcell2⟩:=ob
    refine sr<|wA<|wZ<|cq<|sr<|wm<|wL u76 rfl<|wm<|wZ ?_
    have hq4:=hq3
    rename_i wX
    refine cB<|CW.loop (fun m f w'=>∃i,i≤k∧m=k - i∧w=w'∧Holds f [(0,pt b),(4,.slice (some ⟨bk2,off2,none⟩) k c2),(5,.int .u64 (beVal (r.take i):Nat)),(25,.slice (some ⟨bk2,off2,none⟩) k c2),(26,.int .i64 k),(27,.int .i64 i)]) (m:=k) ?_ ?_
    ·exact⟨0,by omega,by omega,rfl,rfl,rfl,rfl,rfl,rfl,rfl,trivial⟩
    ·rintro m f w ⟨i,hi,rfl,rfl,hf⟩
     have ob:=hf.chain
     obtain⟨g,rfl⟩:=ob
     refine sr<|wV (run_lss rfl rfl)<|wZ<|cq<|CW.condP rfl (fun hlt=>?_) (fun hlt=>?_)
     ·have hlt':i<r.length:=by omega
      have hb1:=beVal_lt (r.take i)
      have hb2:256 ^ (r.take i).length≤256 ^ 7:=Nat.pow_le_pow_right (by decide) (by rw[length_take];omega)
      have h7:(256:Nat) ^ 7=72057594037927936:=by decide
      have hcl2:=(r[i]).toNat_lt
      have ob:=cell_u8 (i:=i) hsl3 hlt'
      obtain⟨bk3,off3,hb3,hcell3⟩:=ob
      obtain⟨rfl,rfl⟩:bk2=bk3∧off2=off3:=by cases hb3;exact⟨rfl,rfl⟩
      refine ck<|cq<|cB<|sr<|wI u76 ty5 rfl rfl<|wl ty5 rfl (hcell3)<|wA<|wZ<|cr<|wm<|wV (run_shl8 rfl rfl (by omega))<|wm<|wV (run_convU64 u5 u240 rfl (by omega))<|wV (run_orB rfl rfl (by omega) (by omega))<|wA<|wZ<|cr<|wP ((i+1:Nat):Int)<|wm<|wZ ?_
      refine(show _∧_ from⟨rfl,_,?_,i+1,by omega,rfl,rfl,rfl,rfl,?_,rfl,rfl,rfl,trivial⟩)
      ·omega
      ·rw[take_succ_eq_append_getElem hlt',beVal_append]
       rfl
     ·obtain rfl:i=k:=by omega
      have htk:r.take i=r:=take_of_length_le (by omega)
      rw[htk]
      have hbl:=beVal_lt r
      have hbl2:256 ^ r.length≤256 ^ 8:=Nat.pow_le_pow_right (by decide) (by omega)
      have h8:(256:Nat) ^ 8=18446744073709551616:=by decide
      by_cases hr0:r[0]=0
      ·refine CW.exit<|cq<|sr<|wm<|wV (run_ixSlN (i:=0) u76 ty5 rfl rfl (by omega))<|wl ty5 rfl (hcell2)<|wV (run_bT (run_eql rfl rfl) (by rw[hr0];rfl))<|wm<|wz<|wz<|pT<|wZ ?_
       have e:numberP bs p=.error 12:=by rw[hnum,if_pos (.inl hr0)]
       refine cT rfl<|cr<|wm<|WL.enterX (run_call en127 rfl rfl) (fail_throw (bs:=bs) (er:=12) _ (h.next hq3) (by decide)) ?_
       rintro e w ⟨p',rfl,hq5⟩
       refine⟨_,rfl,?_⟩
       exact fin_panic (.err e (.on hq3 ⟨p',rfl,hq5⟩))
      ·have hr0':¬((r[0].toNat:Int)=0):=fun h=>hr0 (UInt8.toNat_inj.1 (by simpa using h))
       by_cases hu:beVal r<248
       ·refine CW.exit<|cq<|sr<|wm<|wV (run_ixSlN (i:=0) u76 ty5 rfl rfl (by omega))<|wl ty5 rfl (hcell2)<|wV (run_bF (run_eql rfl rfl) (by exact hr0'))<|wm<|wy<|wm<|wy<|lT<|pF<|wZ ?_
        have e:numberP bs p=.error 12:=by rw[hnum,if_pos (.inr hu)]
        refine cT rfl<|cr<|wm<|WL.enterX (run_call en127 rfl rfl) (fail_throw (bs:=bs) (er:=12) _ (h.next hq3) (by decide)) ?_
        rintro e w ⟨p',rfl,hq5⟩
        refine⟨_,rfl,?_⟩
        exact fin_panic (.err e (.on hq3 ⟨p',rfl,hq5⟩))
       ·refine CW.exit<|cq<|sr<|wm<|wV (run_ixSlN (i:=0) u76 ty5 rfl rfl (by omega))<|wl ty5 rfl (hcell2)<|wV (run_bF (run_eql rfl rfl) (by exact hr0'))<|wm<|wy<|wm<|wy<|lF<|pF<|wZ ?_
        have e:numberP bs p=.ok (beVal r,p+1+i):=by rw[hnum,if_neg (fun h=>h.elim hr0 hu)]
        refine cF rfl<|ck<|sr<|wm<|wA<|wZ<|CW.ret ?_
        refine fin_ret1 rfl ?_
        exact .ok e rfl hq3
theorem run_shr63{P:Program}{f:Slots}{w:World}{d:Option Tmp}{ty:TypeId}{pos:String}{af:Array Edge}{x y:Operand}{T T':TypeId}{u:Nat}{k':IntKind} (hx:ev f x=.int .u64 u) (hy:ev f y=.int k' 63) :
  (execOp (ev f) ⟨d,.binOp .shr T x y T',ty,pos,af,none⟩).run P w=.ok (.value (.int .u64 (u / 9223372036854775808:Nat))) w:=by
 rw[run_shr hx hy (by decide)]
 have e:(2:Int) ^ min (63:Int).toNat IntKind.u64.bits=((9223372036854775808:Nat):Int):=by decide
 rw[e,Int.fdiv_eq_ediv_of_nonneg _ (by decide),←Int.natCast_ediv]
theorem number_at{b p:Nat}{bs:U8}{bv:Value}{r:Except Int (Nat×Nat)} (hr:numberP bs p=r) (w0:World) (h:RdOk w0 b bs bv p) (hpl:p≤bs.length):CP 160 #[pt b] w0 (NumR b bv w0 (fun u=>.int .u64 u) r):=hr▸number_spec w0 h hpl
theorem num_at{b p:Nat}{bs:U8}{bv:Value}{r:Except Int (Nat×Nat)} (hr:numP bs p=r) (w0:World) (h:RdOk w0 b bs bv p) (hpl:p≤bs.length):CP 126 #[pt b] w0 (NumR b bv w0 (fun u=>.int .i64 u) r):=by
 have hs:=h.own
 unfold RdB at hs
 cases hn:numberP bs p with
 | error er=>
  have e:r=.error er:=by rw[←hr];unfold numP;rw[hn]
  refine calls (n:=17) Tryz.func126 rfl rfl rfl ?_
  refine sr<|wA<|wZ<|cq<|sr<|wm<|wn rfl<|wF 2 u266 rfl ty4 rfl<|wl ty4 rfl (hs.c0 rfl)<|wZ<|cF rfl<|ck<|cq ?_
  refine cr<|wm<|WL.enterX (run_call en160 rfl rfl) (number_at hn _ h hpl) ?_
  rintro e w ⟨p',rfl,hq⟩
  refine⟨_,rfl,?_⟩
  exact fin_panic (.err e ⟨p',rfl,hq⟩)
 | ok uq=>
  obtain⟨u,q⟩:=uq
  have hb:=numberP_ok hn
  by_cases hbig:9223372036854775808≤u
  ·have e:r=.error 12:=by rw[←hr];unfold numP;rw[hn];exact if_pos hbig
   refine calls (n:=17) Tryz.func126 rfl rfl rfl ?_
   refine sr<|wA<|wZ<|cq<|sr<|wm<|wn rfl<|wF 2 u266 rfl ty4 rfl<|wl ty4 rfl (hs.c0 rfl)<|wZ<|cF rfl<|ck<|cq ?_
   refine cr<|wm<|wE rfl (run_call en160 rfl rfl) (number_at hn _ h hpl) ?_
   rintro e w ⟨rfl,hq⟩
   refine⟨_,rfl,?_⟩
   refine wA<|wZ<|cq<|sr<|wm<|wV (run_shr63 rfl rfl)<|nT<|wZ<|cT rfl<|cr<|wm<|WL.enterX (run_call en127 rfl rfl) (fail_throw (bs:=bs) (er:=12) _ (h.next hq) (by decide)) ?_
   rintro e w ⟨p',rfl,hq2⟩
   refine⟨_,rfl,?_⟩
   exact fin_panic (.err e (.on hq ⟨p',rfl,hq2⟩))
  ·have e:r=.ok (u,q):=by rw[←hr];unfold numP;rw[hn];exact if_neg hbig
   refine calls (n:=17) Tryz.func126 rfl rfl rfl ?_
   refine sr<|wA<|wZ<|cq<|sr<|wm<|wn rfl<|wF 2 u266 rfl ty4 rfl<|wl ty4 rfl (hs.c0 rfl)<|wZ<|cF rfl<|ck<|cq ?_
   refine cr<|wm<|wE rfl (run_call en160 rfl rfl) (number_at hn _ h hpl) ?_
   rintro e w ⟨rfl,hq⟩
   refine⟨_,rfl,?_⟩
   refine wA<|wZ<|cq<|sr<|wm<|wV (run_shr63 rfl rfl)<|nF<|wZ<|cF rfl<|ck<|sr<|wm<|wV (run_convI64 u240 u3 rfl (by omega))<|wA<|wZ ?_
   refine CW.ret ?_
   refine fin_ret1 rfl ?_
   exact .ok e rfl hq
theorem most_at{b p m:Nat}{bs:U8}{bv:Value}{r:Except Int (Nat×Nat)} (hr:mostP m bs p=r) (w0:World) (h:RdOk w0 b bs bv p) (hpl:p≤bs.length):CP 128 #[pt b,.int .i64 m] w0 (NumR b bv w0 (fun u=>.int .i64 u) r):=by
 cases hn:numP bs p with
 | error er=>
  have e:r=.error er:=by rw[←hr];unfold mostP;rw[hn]
  refine calls (n:=21) Tryz.func128 rfl rfl rfl ?_
  refine sr<|wA<|wZ<|sr<|wm<|WL.enterX (run_call en126 rfl rfl) (num_at hn _ h hpl) ?_
  rintro e w ⟨p',rfl,hq⟩
  refine⟨_,rfl,?_⟩
  exact fin_panic (.err e ⟨p',rfl,hq⟩)
 | ok uq=>
  obtain⟨u,q⟩:=uq
  by_cases hbig:m<u
  ·have e:r=.error 2:=by rw[←hr];unfold mostP;rw[hn];exact if_pos hbig
   refine calls (n:=21) Tryz.func128 rfl rfl rfl ?_
   refine sr<|wA<|wZ<|sr<|wm<|wE rfl (run_call en126 rfl rfl) (num_at hn _ h hpl) ?_
   rintro e w ⟨rfl,hq⟩
   refine⟨_,rfl,?_⟩
   refine wA<|wZ ?_
   have hs:Step [b] [(b,_)] w0 w:=hq
   refine cq<|sr<|wm<|wn rfl<|wF 2 u266 rfl ty4 rfl<|wl ty4 rfl (hs.c0 rfl)<|wN rfl<|wm<|wy<|wm<|wy<|wm<|wy<|xT<|pT<|wZ<|cT rfl<|cr<|wm ?_
   refine WL.enterX (run_call en127 rfl rfl) (fail_throw (bs:=bs) (er:=2) _ (h.next hq) (by decide)) ?_
   rintro e w ⟨p',rfl,hq2⟩
   refine⟨_,rfl,?_⟩
   exact fin_panic (.err e (.on hq ⟨p',rfl,hq2⟩))
  ·have e:r=.ok (u,q):=by rw[←hr];unfold mostP;rw[hn];exact if_neg hbig
   refine calls (n:=21) Tryz.func128 rfl rfl rfl ?_
   refine sr<|wA<|wZ<|sr<|wm<|wE rfl (run_call en126 rfl rfl) (num_at hn _ h hpl) ?_
   rintro e w ⟨rfl,hq⟩
   refine⟨_,rfl,?_⟩
   refine wA<|wZ ?_
   have hs:Step [b] [(b,_)] w0 w:=hq
   refine cq<|sr<|wm<|wn rfl<|wF 2 u266 rfl ty4 rfl<|wl ty4 rfl (hs.c0 rfl)<|wN rfl<|wm<|wy<|wm<|wy<|wm<|wy<|xF<|pT<|wZ ?_
   refine cF rfl<|ck<|sr<|wm<|wA<|wZ<|CW.ret ?_
   refine fin_ret1 rfl ?_
   exact .ok e rfl hq
def BytR (b:Nat) (bv:Value) (w0:World):Except Int ((List UInt8)×Nat)→Ending→World→Prop
 | .ok (s,q),e,w'=>∃v Lv,e=.returned v∧OwnSl 5 1 v s.length (u8s s) Lv∧Step [b] (RdB b bv q::Lv) w0 w'
 | .error er,e,w'=>Thrown b bv er w0 e w'
theorem BytR.err{b:Nat}{bv:Value}{w0 w':World}{ed:Ending}{r:Except Int (List UInt8×Nat)}{er:Int} (hr:r=.error er) (h:Thrown b bv er w0 ed w'):BytR b bv w0 r ed w':=by subst hr;exact h
theorem BytR.ok{b:Nat}{bv:Value}{w0 w':World}{v:Value}{Lv:OL}{s:U8}{q:Nat}{r:Except Int (List UInt8×Nat)} (hr:r=.ok (s,q)) (hv:OwnSl 5 1 v s.length (u8s s) Lv) (hs:Step [b] (RdB b bv q::Lv) w0 w'):BytR b bv w0 r (.returned v) w':=by subst hr;exact⟨v,Lv,rfl,hv,hs⟩
theorem bytes_at{b p:Nat}{bs:U8}{bv:Value}{r:Except Int (List UInt8×Nat)} (hr:bytesP bs p=r) (w0:World) (h:RdOk w0 b bs bv p) (hpl:p≤bs.length):CP 140 #[pt b] w0 (BytR b bv w0 r):=by
 have hs:=h.own
 have hlen:=h.len
 unfold RdB at hs
 cases hn:numP bs p with
 | error er=>
  have e:r=.error er:=by rw[←hr];unfold bytesP;rw[hn]
  refine calls (n:=12) Tryz.func140 rfl rfl rfl ?_
  refine sr<|wA<|wZ<|cq<|sr<|wm<|wn rfl<|wF 2 u266 rfl ty4 rfl<|wl ty4 rfl (hs.c0 rfl)<|wZ<|cF rfl<|ck<|cq ?_
  refine cr<|wm<|wm<|WL.enterX (run_call en126 rfl rfl) (num_at hn _ h hpl) ?_
  rintro e w ⟨p',rfl,hq⟩
  refine⟨_,rfl,?_⟩
  exact fin_panic (.err e ⟨p',rfl,hq⟩)
 | ok uq=>
  obtain⟨u,q⟩:=uq
  have hb:=numP_ok hn
  by_cases hbig:bs.length<q+u
  ·have e:r=.error 11:=by rw[←hr];unfold bytesP;rw[hn];exact if_pos hbig
   refine calls (n:=12) Tryz.func140 rfl rfl rfl ?_
   refine sr<|wA<|wZ<|cq<|sr<|wm<|wn rfl<|wF 2 u266 rfl ty4 rfl<|wl ty4 rfl (hs.c0 rfl)<|wZ<|cF rfl<|ck<|cq ?_
   refine cr<|wm<|wm<|wE rfl (run_call en126 rfl rfl) (num_at hn _ h hpl) ?_
   rintro e w ⟨rfl,hq⟩
   refine⟨_,rfl,?_⟩
   refine WL.enterX (run_call en178 rfl rfl) (take_err (bs:=bs) _ (h.next hq) (by omega) hbig (by omega)) ?_
   rintro e w ⟨p',rfl,hq2⟩
   refine⟨_,rfl,?_⟩
   exact fin_panic (.err e (.on hq ⟨p',rfl,hq2⟩))
  ·have e:r=.ok ((bs.drop q).take u,q+u):=by rw[←hr];unfold bytesP;rw[hn];exact if_neg hbig
   have hsl:((bs.drop q).take u).length=u:=by simp;omega
   refine calls (n:=12) Tryz.func140 rfl rfl rfl ?_
   refine sr<|wA<|wZ<|cq<|sr<|wm<|wn rfl<|wF 2 u266 rfl ty4 rfl<|wl ty4 rfl (hs.c0 rfl)<|wZ<|cF rfl<|ck<|cq ?_
   refine cr<|wm<|wm<|wE rfl (run_call en126 rfl rfl) (num_at hn _ h hpl) ?_
   rintro e w ⟨rfl,hq⟩
   refine⟨_,rfl,?_⟩
   refine wE rfl (run_call en178 rfl rfl) (take_ok (bs:=bs) _ (h.next hq) (by omega) (by omega)) ?_
   rintro e w ⟨a,c,rfl,hsl2,ho,hq2⟩
   refine⟨_,rfl,?_⟩
   refine wE rfl (run_call en83 rfl rfl) (clone_spec (s:=(bs.drop q).take u) _ (by rw[hsl];exact hsl2) (by omega)) ?_
   rintro e w ⟨v,Lv,rfl,hv,hq3⟩
   refine⟨_,rfl,?_⟩
   refine wA<|wZ<|CW.ret ?_
   refine fin_ret1 rfl ?_
   have hq4:=(Step.call (L1:=[RdB b bv q]) (L:=[]) hq hq2).call0 hq3
   exact .ok e hv hq4.append_comm
def TxtR (b:Nat) (bv:Value) (w0:World):Except Int ((List UInt8)×Nat)→Ending→World→Prop
 | .ok (s,q),e,w'=>e=.returned (str s)∧Step [b] [RdB b bv q] w0 w'
 | .error er,e,w'=>Thrown b bv er w0 e w'
theorem text_at{b p:Nat}{bs:U8}{bv:Value}{r:Except Int (List UInt8×Nat)} (hr:bytesP bs p=r) (w0:World) (h:RdOk w0 b bs bv p) (hpl:p≤bs.length):CP 161 #[pt b] w0 (TxtR b bv w0 r):=by
 cases hn:r with
 | error er=>
  rw[hn] at hr
  refine calls (n:=6) Tryz.func161 rfl rfl rfl ?_
  refine sr<|wA<|wZ<|sr<|wm<|WL.enterX (run_call en140 rfl rfl) (bytes_at hr _ h hpl) ?_
  rintro e w ⟨p',rfl,hq⟩
  refine⟨_,rfl,?_⟩
  exact fin_panic ⟨p',rfl,hq⟩
 | ok sq=>
  obtain⟨s,q⟩:=sq
  rw[hn] at hr
  refine calls (n:=6) Tryz.func161 rfl rfl rfl ?_
  refine sr<|wA<|wZ<|sr<|wm<|wE rfl (run_call en140 rfl rfl) (bytes_at hr _ h hpl) ?_
  rintro e w ⟨v,Lv,rfl,hv,hq⟩
  refine⟨_,rfl,?_⟩
  refine wV (run_toString u76 u9 u5 rfl (hv.sl (Step.append_comm (L1:=[_]) hq)))<|wA<|wZ<|CW.ret ?_
  refine fin_ret1 rfl ?_
  exact⟨rfl,Step.dropR (L1:=[_]) hq⟩
def padD (d:(List UInt8)):(List UInt8):=d++List.replicate (32 - d.length) 0
def badD (d:(List UInt8)):Prop:=32<d.length∨0<d.length∧d.getLast?=some 0
instance (d:(List UInt8)):Decidable (badD d):=by unfold badD;exact inferInstance
def entP (a:(List UInt8)) (bs:(List UInt8)) (p:Nat):Except Int (Ent×Nat):=
 match numP bs p with
 | .error e=>.error e
 | .ok (k,p1)=>if k=2∨k=1 then
   match bytesP bs p1 with
   | .error e=>.error e
   | .ok (s,p2)=>if wrongE k s a=0 then
     match bytesP bs p2 with
     | .error e=>.error e
     | .ok (d,p3)=>if badD d then .error 51 else .ok (⟨s,k,padD d⟩,p3)
    else .error 51
  else .error 51
def EntR (b:Nat) (bv:Value) (w0:World):Except Int (Ent×Nat)→Ending→World→Prop
 | .ok (x,q),e,w'=>e=.returned (.agg x.cells.toArray)∧Step [b] [RdB b bv q] w0 w'
 | .error er,e,w'=>Thrown b bv er w0 e w'
theorem EntR.err{b:Nat}{bv:Value}{w0 w':World}{ed:Ending}{r:Except Int (Ent×Nat)}{er:Int} (hr:r=.error er) (h:Thrown b bv er w0 ed w'):EntR b bv w0 r ed w':=by subst hr;exact h
theorem EntR.ok{b:Nat}{bv:Value}{w0 w':World}{ed:Ending}{r:Except Int (Ent×Nat)}{x:Ent}{q:Nat} (hr:r=.ok (x,q)) (he:ed=.returned (.agg x.cells.toArray)) (hs:Step [b] [RdB b bv q] w0 w'):EntR b bv w0 r ed w':=by subst hr;exact⟨he,hs⟩
theorem bld_kind (k:Nat) (w:World):(Instr.build 115 #[(1,.int .i64 k)]).run Tryz.prog w=.ok (.agg (Ent.cells ⟨[],k,List.replicate 32 0⟩).toArray) w:=by kernel_rfl
theorem numP_le{bs:U8}{p k q:Nat} (h:numP bs p=.ok (k,q)):k≤9223372036854775807:=by have:=numP_ok h;omega
theorem bytesP_len{bs s:U8}{p q:Nat} (h:bytesP bs p=.ok (s,q)):s.length≤bs.length:=by
 unfold bytesP at h
 split at h
 ·cases h
 ·split at h
  ·cases h
  ·injection h with h;injection h with h2 h3;subst h2;simp;omega
theorem pad_splice (k:Nat) (s d:U8) (hd:d.length≤32):splice ((Ent.cells ⟨[],k,List.replicate 32 0⟩).set 0 (str s)) 2 ((u8s d).take (min d.length 32*1))=Ent.cells ⟨s,k,padD d⟩:=by
 rw[Nat.min_eq_left hd,Nat.mul_one,take_of_length_le (by simp[u8s])]
 have e:(u8s (List.replicate 32 0)).drop d.length=u8s (List.replicate (32 - d.length) 0):=by simp only[u8s,map_replicate,drop_replicate]
 simp only[splice,Ent.cells,padD,set_cons_zero,take_succ_cons,take_zero,u8s_append,u8s_len]
 rw[Nat.add_comm 2,←e]
 rfl
theorem run_sliceArr0{P:Program}{f:Slots}{w:World}{d:Option Tmp}{ty:TypeId}{pos:String}{af:Array Edge}{x:Operand}{T E:TypeId}{agg:Bool}{n bytes:Nat}{zs:List Value}{bk off m:Nat} (ht:P.underlying T=some (.array m E)) (hE:Ty P E agg n bytes zs) (hx:ev f x=.pointer (some ⟨bk,off,none⟩)) :
  (execOp (ev f) ⟨d,.slice T x none none none,ty,pos,af,none⟩).run P w=.ok (.value (.slice (some ⟨bk,off,none⟩) m m)) w:=by
 rw[run_sliceArr (xl:=none) (xh:=none) (lo:=0) (hi:=m) ht hE hx rfl rfl (Nat.zero_le _) (Nat.le_refl _)]
 simp[cutSl]
section
variable{P:Program}{n:Nat}{f:Slots}{ds:List Deferred}{w:World}
end
theorem entry_at{b p:Nat}{bs a:U8}{bv:Value}{r:Except Int (Ent×Nat)} (hr:entP a bs p=r) (w0:World) (h:RdOk w0 b bs bv p) (hpl:p≤bs.length) (hal:a.length≤9223372036854775807):CP 129 #[pt b,str a] w0 (EntR b bv w0 r):=by
 have hlen:=h.len
 have hs:=Step.append_comm (L1:=[RdB b bv p]) (L2:=[]) h.own
 unfold entP at hr
 refine calls (n:=57) Tryz.func129 rfl rfl rfl ?_
 refine sr<|WL.alloc ty115 rfl hs (fun b4 w hs=>?_)
 refine wZ ?_
 cases h1:numP bs p with
 | error er=>
  rw[h1] at hr
  refine sr<|wm<|WL.enterX (run_call en126 rfl rfl) (num_at h1 _ (h.next (Step.append_comm (L1:=[_]) hs)) hpl) ?_
  rintro e w ⟨p',rfl,hq⟩
  refine⟨_,rfl,?_⟩
  exact fin_panic (.err hr.symm (.on (Step.append_comm (L1:=[_]) hs) ⟨p',rfl,hq⟩))
 | ok kp=>
  obtain⟨k,p1⟩:=kp
  rw[h1] at hr
  have hb1:=numP_ok h1
  have hkb:=numP_le h1
  simp only at hr
  have hst:∀{L:OL}{w1 w2:World}{q:Nat}{L2:OL},Step [b] (L++[RdB b bv q]) w0 w1→Step [b] L2 w1 w2→Step [b] (L2++L) w0 w2:=fun h1 h2=>Step.call (L1:=[RdB b bv _]) h1.append_comm h2
  refine sr<|wm<|wE rfl (run_call en126 rfl rfl) (num_at h1 _ (h.next (Step.append_comm (L1:=[_]) hs)) hpl) ?_
  rintro e w ⟨rfl,hq⟩
  refine⟨_,rfl,?_⟩
  replace hs:=(hst (L:=[_]) hs hq).append_comm
  refine wV (run_build rfl (bld_kind _ _))<|WL.alloc ty115 rfl hs (fun b5 w hs=>?_)
  refine WL.storeAll ty115 rfl rfl (rfl) (Ent.cells1 _) (hs) rfl (fun w hs=>?_)
  refine wZ ?_
  replace hs:Step [b] ((b5,blk 115 (Ent.cells ⟨[],k,List.replicate 32 0⟩))::([(b4,blk 115 (Ent.cells ⟨[],0,List.replicate 32 0⟩))]++[RdB b bv p1])) w0 w:=hs
  by_cases hk:k=2∨k=1
  ·rw[if_pos hk] at hr
   refine CW.sM (fun f w=>Step [b] ((b5,blk 115 (Ent.cells ⟨[],k,List.replicate 32 0⟩))::([(b4,blk 115 (Ent.cells ⟨[],0,List.replicate 32 0⟩))]++[RdB b bv p1])) w0 w∧Holds f [(0,pt b),(1,str a),(4,pt b4),(5,pt b5)]) ?_ ?_
   ·rcases hk with rfl | rfl
    ·refine sr<|wF 1 u115 rfl ty3 rfl<|wl ty3 rfl (hs.c0 rfl)<|wV (run_bT (run_neq rfl rfl) (by show((2:Nat):Int)≠1;decide))<|wm<|wy<|wF 1 u115 rfl ty3 rfl<|wy<|wl ty3 rfl (hs.c0 rfl)<|wy<|wV (run_bF (run_neq rfl rfl) (by show ¬((2:Nat):Int)≠2;decide))<|pT<|wZ ?_
     refine cF rfl<|ck ?_
     exact⟨rfl,hs,rfl,rfl,rfl,rfl,trivial⟩
    ·refine sr<|wF 1 u115 rfl ty3 rfl<|wl ty3 rfl (hs.c0 rfl)<|wV (run_bF (run_neq rfl rfl) (by show ¬((1:Nat):Int)≠1;decide))<|wm<|wz<|wz<|wz<|pF<|wZ<|cF rfl<|ck ?_
     exact⟨rfl,hs,rfl,rfl,rfl,rfl,trivial⟩
   clear hs
   rintro f w ⟨hs,hf⟩
   have ob:=hf.chain
   obtain⟨g,rfl⟩:=ob
   have hsn:∀{w:World}{L:OL}{b5:Nat},Step [b] ((b5,blk 115 ((Ent.cells ⟨[],k,List.replicate 32 0⟩).set 0 (str [])))::L) w0 w→Step [b] ((b5,blk 115 (Ent.cells ⟨[],k,List.replicate 32 0⟩))::L) w0 w:=fun h=>h
   cases h2:bytesP bs p1 with
   | error er=>
    rw[h2] at hr
    refine sr<|wm<|WL.enterX (run_call en161 rfl rfl) (text_at h2 _ (h.next (Step.append_comm (L1:=[_,_]) hs)) (by omega)) ?_
    rintro e w ⟨p',rfl,hq2⟩
    refine⟨_,rfl,?_⟩
    exact fin_panic (.err hr.symm (.on (Step.append_comm (L1:=[_,_]) hs) ⟨p',rfl,hq2⟩))
   | ok sp=>
    obtain⟨s,p2⟩:=sp
    rw[h2] at hr
    have hb2:=bytesP_ok h2
    have hsl:=bytesP_len h2
    simp only at hr
    refine sr<|wm<|wE rfl (run_call en161 rfl rfl) (text_at h2 _ (h.next (Step.append_comm (L1:=[_,_]) hs)) (by omega)) ?_
    rintro e w ⟨rfl,hq2⟩
    refine⟨_,rfl,?_⟩
    replace hs:=(hst (L:=[_,_]) hs hq2).append_comm
    refine wF 0 u115 rfl ty9 rfl<|ws1 ty9 rfl rfl (rfl) (hs) (fun w hs=>?_)
    refine wZ ?_
    by_cases hw:wrongE k s a=0
    ·rw[if_pos hw] at hr
     refine sr<|wm<|wF 1 u115 rfl ty3 rfl<|wl ty3 rfl (hs.c0 rfl)<|wF 0 u115 rfl ty9 rfl<|wl ty9 rfl (hs.c0 rfl)<|wm<|wE rfl (run_call en162 rfl rfl) (wrong_spec hw _ (by omega)) ?_
     rintro e w ⟨rfl,hq3⟩
     refine⟨_,rfl,?_⟩
     replace hs:=hs.callE hq3
     refine wE rfl (run_call en127 rfl rfl) (fail_none (bs:=bs) _ (h.next (Step.append_comm (L1:=[_,_]) hs))) ?_
     rintro e w ⟨rfl,hq4⟩
     refine⟨_,rfl,?_⟩
     replace hs:=(hst (L:=[_,_]) hs hq4).append_comm
     refine wZ ?_
     cases h3:bytesP bs p2 with
     | error er=>
      rw[h3] at hr
      refine sr<|wm<|WL.enterX (run_call en140 rfl rfl) (bytes_at h3 _ (h.next (Step.append_comm (L1:=[_,_]) hs)) (by omega)) ?_
      rintro e w ⟨p',rfl,hq5⟩
      refine⟨_,rfl,?_⟩
      exact fin_panic (.err hr.symm (.on (Step.append_comm (L1:=[_,_]) hs) ⟨p',rfl,hq5⟩))
     | ok dp=>
      obtain⟨d,p3⟩:=dp
      rw[h3] at hr
      have hb3:=bytesP_ok h3
      have hdl:=bytesP_len h3
      simp only at hr
      refine sr<|wm<|wE rfl (run_call en140 rfl rfl) (bytes_at h3 _ (h.next (Step.append_comm (L1:=[_,_]) hs)) (by omega)) ?_
      rintro e w ⟨v,Lv,rfl,hv,hq5⟩
      refine⟨_,rfl,?_⟩
      have ob:=hv.form
      obtain⟨va,vc,rfl⟩:=ob
      replace hs:=(hst (L:=[_,_]) hs hq5).append_comm
      refine wA<|wZ ?_
      have hvs:=fun(w:World) (hs:Step [b] Lv w0 w)=>hv.sl (S:=[b]) (L:=[]) (w0:=w0) (w:=w) (by rw[append_nil];exact hs)
      replace hs:Step [b] ([(b5,blk 115 (Ent.cells ⟨s,k,List.replicate 32 0⟩)),(b4,blk 115 (Ent.cells ⟨[],0,List.replicate 32 0⟩))]++(RdB b bv p3::Lv)) w0 w:=hs
      by_cases hbd:badD d
      ·rw[if_pos hbd] at hr
       by_cases hd1:32<d.length
       ·refine cq<|sr<|wm<|wL u76 rfl<|xT<|wm<|wz<|wz<|wz<|wz<|wz<|wz<|wz<|wz<|wz<|wz<|wz<|wz<|pT<|wZ<|cT rfl<|cr<|wm ?_
        refine WL.enterX (run_call en127 rfl rfl) (fail_throw (bs:=bs) (er:=51) _ (h.next (Step.append_comm (L1:=[_,_]) hs)) (by decide)) ?_
        rintro e w ⟨p',rfl,hq6⟩
        refine⟨_,rfl,?_⟩
        exact fin_panic (.err hr.symm (.on (Step.append_comm (L1:=[_,_]) hs) ⟨p',rfl,hq6⟩))
       ·have ob:=hbd.resolve_left hd1
        obtain⟨hd2,hla⟩:=ob
        have hi:d.length - 1<d.length:=by omega
        have hz:d[d.length - 1]=0:=by
         rw[getLast?_eq_getElem?,getElem?_eq_getElem hi] at hla
         exact Option.some.inj hla
        have ob:=cell_u8 (i:=d.length - 1) (hvs _ (Step.dropL (L1:=[_,_,_]) hs)) hi
        obtain⟨bk,off,rfl,hcell⟩:=ob
        refine cq<|sr<|wm<|wL u76 rfl<|xF<|wm<|wy<|wm<|wy<|wL u76 rfl<|wy<|xT<|wy<|wm<|wy<|wm<|wy<|wm<|wy<|wL u76 rfl<|wy<|wS ((d.length - 1:Nat):Int)<|wy<|wI u76 ty5 rfl rfl ?_
        refine wy<|wl ty5 rfl (hcell)<|wy<|wV (run_bT (run_eql rfl rfl) (by rw[hz];rfl))<|wy<|pT<|pF<|wZ<|cT rfl<|cr<|wm<|WL.enterX (run_call en127 rfl rfl) (fail_throw (bs:=bs) (er:=51) _ (h.next (Step.append_comm (L1:=[_,_]) hs)) (by decide)) ?_
        rintro e w ⟨p',rfl,hq6⟩
        refine⟨_,rfl,?_⟩
        exact fin_panic (.err hr.symm (.on (Step.append_comm (L1:=[_,_]) hs) ⟨p',rfl,hq6⟩))
      ·rw[if_neg hbd] at hr
       have hd1:¬32<d.length:=fun h=>hbd (.inl h)
       refine CW.sM (fun f w=>Step [b] ([(b5,blk 115 (Ent.cells ⟨s,k,List.replicate 32 0⟩)),(b4,blk 115 (Ent.cells ⟨[],0,List.replicate 32 0⟩))]++(RdB b bv p3::Lv)) w0 w∧Holds f [(4,pt b4),(5,pt b5),(6,.slice va d.length vc)]) ?_ ?_
       ·by_cases hd2:d.length=0
        ·refine sr<|wm<|wL u76 rfl<|xF<|wm<|wy<|wm<|wy<|wL u76 rfl<|wy<|xF<|wy<|wm<|wz<|wz<|wz<|wz<|wz<|wz<|wz<|wy<|pF<|pF ?_
         refine wZ<|cF rfl<|ck ?_
         exact⟨rfl,hs,rfl,rfl,rfl,trivial⟩
        ·have hi:d.length - 1<d.length:=by omega
         have hla:d.getLast?=some d[d.length - 1]:=by rw[getLast?_eq_getElem?,getElem?_eq_getElem hi]
         have hz':¬((d[d.length - 1].toNat:Int)=0):=fun h=>hbd (.inr ⟨by omega,by rw[hla,show d[d.length - 1]=0 from UInt8.toNat_inj.1 (by simpa using h)]⟩)
         have ob:=cell_u8 (i:=d.length - 1) (hvs _ (Step.dropL (L1:=[_,_,_]) hs)) hi
         obtain⟨bk,off,rfl,hcell⟩:=ob
         refine sr<|wm<|wL u76 rfl<|xF<|wm<|wy<|wm<|wy<|wL u76 rfl<|wy<|xT<|wy<|wm<|wy<|wm<|wy<|wm<|wy<|wL u76 rfl<|wy<|wS ((d.length - 1:Nat):Int)<|wy<|wI u76 ty5 rfl rfl ?_
         refine wy<|wl ty5 rfl (hcell)<|wy<|wV (run_bF (run_eql rfl rfl) (by exact hz'))<|wy<|pT<|pF<|wZ<|cF rfl<|ck ?_
         exact⟨rfl,hs,rfl,rfl,rfl,trivial⟩
       clear hs
       rintro f w ⟨hs,hf⟩
       have ob:=hf.chain
       obtain⟨g,rfl⟩:=ob
       refine sr<|wF 2 u115 rfl ty44 rfl<|wV (run_sliceArr0 u44 ty5 rfl)<|wm<|WL.copy u76 ty5 rfl rfl (hs) ((hvs _ (Step.dropL (L1:=[_,_,_]) hs))) (Cells1.u8s d) (by exact Nat.le_of_ble_eq_true rfl) (fun k hk=>by cases hk;rfl) (fun w hs=>⟨fun k hk=>?_,fun h=>by cases h⟩)
       cases hk
       refine wZ ?_
       replace hs:=hs.cast (pad_splice _ s d (by omega))
       have hpl:∀k:Nat,(Ent.cells ⟨s,k,padD d⟩).length=34:=fun k=>by simp[Ent.cells,u8s,padD];omega
       refine sr<|wR ty115 rfl (hpl _) hs.a0<|WL.storeAll ty115 rfl rfl (hpl _) (Ent.cells1 _) (hs.swap) rfl (fun w hs=>?_)
       refine wZ<|CW.ret ?_
       refine fin_cell1 rfl rfl (run_loadVarN ty115 (hpl _) hs.a0) ?_
       exact .ok hr.symm rfl (Step.dropR (L1:=[_]) (Step.dropL (L1:=[_,_]) hs))
    ·rw[if_neg hw] at hr
     have hw1:=wrongE_51 hw
     refine sr<|wm<|wF 1 u115 rfl ty3 rfl<|wl ty3 rfl (hs.c0 rfl)<|wF 0 u115 rfl ty9 rfl<|wl ty9 rfl (hs.c0 rfl)<|wm<|wE rfl (run_call en162 rfl rfl) (wrong_spec hw1 _ (by omega)) ?_
     rintro e w ⟨rfl,hq3⟩
     refine⟨_,rfl,?_⟩
     replace hs:=hs.callE hq3
     refine WL.enterX (run_call en127 rfl rfl) (fail_throw (bs:=bs) (er:=51) _ (h.next (Step.append_comm (L1:=[_,_]) hs)) (by decide)) ?_
     rintro e w ⟨p',rfl,hq4⟩
     refine⟨_,rfl,?_⟩
     exact fin_panic (.err hr.symm (.on (Step.append_comm (L1:=[_,_]) hs) ⟨p',rfl,hq4⟩))
  ·rw[if_neg hk] at hr
   refine cq<|sr<|wF 1 u115 rfl ty3 rfl<|wl ty3 rfl (hs.c0 rfl)<|wV (run_bT (run_neq rfl rfl) (by show(k:Int)≠1;omega))<|wm<|wy<|wF 1 u115 rfl ty3 rfl<|wy<|wl ty3 rfl (hs.c0 rfl)<|wy<|wV (run_bT (run_neq rfl rfl) (by show(k:Int)≠2;omega))<|pT<|wZ<|cT rfl<|cr<|wm ?_
   refine WL.enterX (run_call en127 rfl rfl) (fail_throw (bs:=bs) (er:=51) _ (h.next (Step.append_comm (L1:=[_,_]) hs)) (by decide)) ?_
   rintro e w ⟨p',rfl,hq2⟩
   refine⟨_,rfl,?_⟩
   exact fin_panic (.err hr.symm (.on (Step.append_comm (L1:=[_,_]) hs) ⟨p',rfl,hq2⟩))
end Go.Gx
