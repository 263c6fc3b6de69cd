/- The program's Store stands for a plain one. The program's Store: each method in the words of the plain Store. The program's Store: Put, Plant, New, Twin in the words of the plain Store. The document's Store: places in a rising list. The document's Store stands for a plain one; place, Used, room. The -/
import Derived.Test.YtplmnkogkfhaiaaGreatT5
import Derived.Test.YtplmnkogkfhaiaaGreatT2
import Derived.Test.YtplmnkogkfhaiaaGreatSort
import Derived.Shelf.SlSortCmp.NoneTotal
import Derived.RangeFuncRecord
import Derived.RangeFuncNested
set_option linter.unusedVariables false
set_option linter.unusedSimpArgs false
set_option maxRecDepth 100000
namespace Go.Gx
open Go.Proofs List
attribute [local irreducible] shaL cutD frontL
def Held (D:(List (Nat×Obj))) (v:Value) (x:(List UInt8)):Prop:=∃Lv,OwnSl 5 1 v x.length (u8s x) Lv∧∀p∈Lv,p∈D
theorem Held.mono {D D':OL}{v:Value}{x:U8} (h:Held D v x) (hD:∀p∈D,p∈D'):Held D' v x:=by
 obtain⟨Lv,h1,h2⟩:=h
 exact⟨Lv,h1,fun p hp=>hD p (h2 p hp)⟩
theorem Held.form{D:OL}{v:Value}{x:U8} (h:Held D v x):∃a c,v=.slice a x.length c:=by
 obtain⟨Lv,h1,h2⟩:=h
 exact h1.form
theorem Held.sl{D:OL}{v:Value}{x:U8}{w:World} (h:Held D v x) (hw:∀p∈D,w.heap[p.1]?=some p.2):Sl w 1 v x.length (u8s x):=by
 obtain⟨Lv,⟨hl,h1⟩,h2⟩:=h
 rcases h1 with⟨rfl,h0,rfl⟩ | ⟨b,cap,more,rfl,rfl,hc⟩
 ·rw[eq_nil_of_length_eq_zero h0];exact Sl.nil _ _ _
 ·exact .mk hl (At.of_blk (hw _ (h2 (b,blk 5 (u8s x++more)) (by simp)))).left
theorem Held.room{D:OL}{v:Value}{x:U8} (h:Held D v x):Room v:=by
 obtain⟨Lv,⟨hl,h1⟩,h2⟩:=h
 rcases h1 with⟨rfl,h0,rfl⟩ | ⟨b,cap,more,rfl,rfl,hc⟩
 ·exact Nat.le_refl _
 ·show x.length≤cap
  rw[length_append] at hc
  omega
theorem Held.out{D:OL}{v:Value}{x:U8} (h:Held D v x){S:List Nat} (hS:∀p∈D,p.1∉S):Outside v S:=by
 obtain⟨Lv,⟨hl,h1⟩,h2⟩:=h
 rcases h1 with⟨rfl,h0,rfl⟩ | ⟨b,cap,more,rfl,rfl,hc⟩
 ·trivial
 ·exact hS _ (h2 (b,blk 5 (u8s x++more)) (by simp))
def EntB (D:(List (Nat×Obj))) (p:MEnt) (b:Blb):Prop:=p.1=b.d∧∃v,p.2.1=.agg #[v,.int .i64 (b.st:Nat)]∧Held D v b.x
inductive View (D:(List (Nat×Obj))):List MEnt→List Blb→Prop
 | nil:View D [] []
 | cons{p:MEnt}{b:Blb}{M:List MEnt}{X:List Blb}:EntB D p b→View D M X→View D (p::M) (b::X)
section
variable {D D':OL}{M:List MEnt}{X:List Blb}{d:U8}
theorem EntB.mono{p:MEnt}{b:Blb} (h:EntB D p b) (hD:∀p∈D,p∈D'):EntB D' p b:=by
 obtain⟨h1,v,h2,h3⟩:=h
 exact⟨h1,v,h2,h3.mono hD⟩
theorem View.mono (h:View D M X) (hD:∀p∈D,p∈D'):View D' M X:=by
 induction h with
 | nil=>exact .nil
 | cons h _ ih=>exact .cons (h.mono hD) ih
theorem View.fst (h:View D M X):M.map (fun p=>p.1)=X.map (·.d):=by
 induction h with
 | nil=>rfl
 | cons h _ ih=>rw[map_cons,map_cons,ih,h.1]
theorem View.length (h:View D M X):M.length=X.length:=by
 have:=congrArg List.length h.fst
 simpa using this
theorem View.blobV (h:View D M X):∀p∈M,BlobV p.2.1:=by
 induction h with
 | nil=>intro p hp;cases hp
 | cons h _ ih=>
  intro q hq
  rcases mem_cons.1 hq with rfl | hq
  ·obtain⟨_,v,h2,h3⟩:=h
   have ob:=h3.form
   obtain⟨a,c,rfl⟩:=ob
   exact⟨a,_,c,_,h2⟩
  ·exact ih q hq
theorem View.append {M':List MEnt}{X':List Blb} (h:View D M X) (h':View D M' X'):View D (M++M') (X++X'):=by
 induction h with
 | nil=>exact h'
 | cons h _ ih=>exact .cons h ih
theorem View.find (h:View D M X) (d:U8):match findX d X with
  | none=>findD d M 0=none
  | some b=>∃i v,findD d M 0=some (i,.agg #[v,.int .i64 (b.st:Nat)])∧Held D v b.x:=by
 induction h with
 | nil=>rfl
 | @cons p b M X h _ ih=>
  obtain⟨h1,v,h2,h3⟩:=h
  rw[findX,List.find?_cons]
  by_cases hd:b.d=d
  ·simp only[hd,decide_true]
   refine⟨0,v,?_,h3⟩
   rw[findD,if_pos (by rw[h1,hd]),h2]
  ·simp only[hd,decide_false]
   have e:findD d (p::M) 0=(findD d M 0).map fun q=>(q.1+1,q.2):=by
    rw[findD,if_neg (by rw[h1];exact fun e=>hd e.symm),findD_shift]
   rw[e]
   have ih':=ih
   unfold findX at ih'
   cases hx:X.find? (fun b=>decide (b.d=d)) with
   | none=>rw[hx] at ih';simp only at ih'⊢;rw[ih'];rfl
   | some c=>
    rw[hx] at ih'
    obtain⟨i,v',hv,hh⟩:=ih'
    exact⟨i+1,v',by rw[hv];rfl,hh⟩
def upX (b:Blb):List Blb→List Blb
 | []=>[]
 | c::X=>if c.d=b.d then b::X else c::upX b X
theorem View.upd (h:View D M X){b:Blb}{v:Value} (hv:Held D v b.x):View D (updD b.d (.agg #[v,.int .i64 (b.st:Nat)]) M) (upX b X):=by
 induction h with
 | nil=>exact .nil
 | @cons p c M X h hM ih=>
  rw[updD,upX]
  by_cases hc:c.d=b.d
  ·rw[if_pos hc,if_pos (by rw[h.1];exact hc.symm)]
   exact .cons ⟨h.1.trans hc,v,rfl,hv⟩ hM
  ·rw[if_neg hc,if_neg (by rw[h.1];exact fun e=>hc e.symm)]
   exact .cons h ih
theorem upX_perm{b:Blb}:∀{X:List Blb},(X.map (·.d)).Nodup→(findX b.d X).isSome=true→(upX b X).Perm (b::delX b.d X)
 | [],_,h=>by cases h
 | c::X,hn,h=>by
  rw[map_cons,nodup_cons] at hn
  rw[upX]
  by_cases hc:c.d=b.d
  ·rw[if_pos hc]
   have hnn:findX b.d X=none:=by
    cases hx:findX b.d X with
    | none=>rfl
    | some e=>
     have ob:=findX_some hx
     obtain⟨h1,h2⟩:=ob
     exact absurd (by rw[hc,←h2];exact mem_map_of_mem h1) hn.1
   have hd:delX b.d (c::X)=X:=by
    rw[delX,filter_cons,if_neg (by simpa using hc)]
    exact delX_none hnn
   rw[hd]
  ·rw[if_neg hc]
   have hx:(findX b.d X).isSome=true:=by
    rw[findX,List.find?_cons] at h
    simp only[hc,decide_false] at h
    exact h
   have hd:delX b.d (c::X)=c::delX b.d X:=by
    rw[delX,filter_cons,if_pos (by simpa using hc)]
    rfl
   rw[hd]
   exact((upX_perm hn.2 hx).cons c).trans (List.Perm.swap _ _ _)
theorem View.put (h:View D M X) (hn:(X.map (·.d)).Nodup){b:Blb}{v:Value} (hv:Held D v b.x) (clock:Nat):∃X',View D (putM b.d (.agg #[v,.int .i64 (b.st:Nat)]) clock M) X'∧X'.Perm (b::delX b.d X):=by
 have hf:=h.find b.d
 rw[putM]
 cases hx:findX b.d X with
 | none=>
  rw[hx] at hf
  simp only at hf
  rw[hf]
  refine⟨X++[b],h.append (.cons ⟨rfl,v,rfl,hv⟩ .nil),?_⟩
  rw[delX_none hx]
  exact perm_append_comm (l₂:=[b])
 | some c=>
  rw[hx] at hf
  obtain⟨i,u,hf,_⟩:=hf
  rw[hf]
  exact⟨upX b X,h.upd hv,upX_perm hn (by rw[hx];rfl)⟩
theorem View.del (h:View D M X) (hn:(X.map (·.d)).Nodup) (d:U8):View D (delM d M) (delX d X):=by
 induction h with
 | nil=>exact .nil
 | @cons p c M X h hM ih=>
  rw[map_cons,nodup_cons] at hn
  rw[delM]
  by_cases hc:c.d=d
  ·have hnn:findX d X=none:=by
    cases hx:findX d X with
    | none=>rfl
    | some e=>
     have ob:=findX_some hx
     obtain⟨h1,h2⟩:=ob
     exact absurd (by rw[hc,←h2];exact mem_map_of_mem h1) hn.1
   have hd:delX d (c::X)=X:=by
    rw[delX,filter_cons,if_neg (by simpa using hc)]
    exact delX_none hnn
   rw[hd,if_pos (by rw[h.1];exact hc.symm)]
   exact hM
  ·have hd:delX d (c::X)=c::delX d X:=by
    rw[delX,filter_cons,if_pos (by simpa using hc)]
    rfl
   rw[hd,if_neg (by rw[h.1];exact fun e=>hc e.symm)]
   exact .cons h (ih hn.2)
end
theorem Born.put{M:List MEnt}{clock:Nat} (h:Born M clock) (d:U8) (v:Value):Born (putM d v clock M) (putC d clock M):=by
 rw[putM,putC]
 cases hf:(findD d M 0).isSome with
 | true=>
  simp only[if_true]
  have e:∀(M:List MEnt),(updD d v M).map (fun p=>p.2.2)=M.map (fun p=>p.2.2):=by
   intro M
   induction M with
   | nil=>rfl
   | cons p M ih=>
    rw[updD]
    split
    ·rfl
    ·rw[map_cons,map_cons,ih]
  refine⟨fun p hp=>?_,by rw[e];exact h.nodup⟩
  have:p.2.2∈(updD d v M).map (fun p=>p.2.2):=mem_map.2 ⟨p,hp,rfl⟩
  rw[e] at this
  have ob:=mem_map.1 this
  obtain⟨q,hq,hqe⟩:=ob
  rw[←hqe];exact h.lt q hq
 | false=>
  simp only[Bool.false_eq_true,if_false]
  refine⟨fun p hp=>?_,?_⟩
  ·rcases mem_append.1 hp with hp | hp
   ·have:=h.lt p hp;omega
   ·rw[mem_singleton.1 hp];simp
  ·rw[map_append,nodup_append]
   refine⟨h.nodup,by simp,fun a ha b hb=>?_⟩
   have ob:=mem_map.1 ha
   obtain⟨q,hq,rfl⟩:=ob
   have:=h.lt q hq
   simp at hb
   omega
theorem Born.del{M:List MEnt}{clock:Nat} (h:Born M clock) (d:U8):Born (delM d M) clock:=by
 have hsub:∀(M:List MEnt),(delM d M).Sublist M:=by
  intro M
  induction M with
  | nil=>exact List.Sublist.refl _
  | cons p M ih=>
   rw[delM]
   split
   ·exact sublist_cons_self _ _
   ·exact ih.cons_cons p
 exact⟨fun p hp=>h.lt p ((hsub M).subset hp),h.nodup.sublist ((hsub M).map _)⟩
def PRep (bs:Nat) (s:AS) (D L:(List (Nat×Obj))):Prop:=
 ∃m clock M X',L=[(bs,blk 140 (stC s.k s.cap (usedX s.X) s.last m s.gets s.puts)),(m,mapObj M clock)]∧View D M X'∧X'.Perm s.X∧Born M clock
theorem PRep.mono{bs:Nat}{s:AS}{D D' L:OL} (h:PRep bs s D L) (hD:∀p∈D,p∈D'):PRep bs s D' L:=by
 obtain⟨m,clock,M,X',h1,h2,h3,h4⟩:=h
 exact⟨m,clock,M,X',h1,h2.mono hD,h3,h4⟩
def Lives (L:(List (Nat×Obj))) (w:World):Prop:=Step (L.map (·.1)) L w w
theorem Lives.has{L:OL}{w:World} (h:Lives L w):∀p∈L,w.heap[p.1]?=some p.2:=Step.has h
theorem Lives.of{S:List Nat}{L1 L2:OL}{w w0:World} (h:Step S (L1++L2) w0 w):Lives L1 w:=Step.own h
theorem Lives.left{L1 L2:OL}{w:World} (h:Lives (L1++L2) w):Lives L1 w:=Step.own h
structure Open' (bs:Nat) (s:AS) (D L:(List (Nat×Obj))) (w:World) (m clock:Nat) (M:List MEnt) (X':List Blb):Prop where
 L:L=[(bs,blk 140 (stC s.k s.cap (usedX s.X) s.last m s.gets s.puts)),(m,mapObj M clock)]
 view:View D M X'
 perm:X'.Perm s.X
 born:Born M clock
 ne:bs≠m
 hb:w.heap[bs]?=some (blk 140 (stC s.k s.cap (usedX s.X) s.last m s.gets s.puts))
 hm:w.heap[m]?=some (mapObj M clock)
 out:∀p∈D,p.1∉[bs,m]
 dat:∀p∈D,w.heap[p.1]?=some p.2
 nodup:(X'.map (·.d)).Nodup
 keys:Keys32 M
theorem PRep.open{bs:Nat}{s:AS}{D L:OL}{w:World} (h:PRep bs s D L) (ok:s.Ok) (hw:Lives (L++D) w):∃m clock M X',Open' bs s D L w m clock M X':=by
 obtain⟨m,clock,M,X',rfl,h2,h3,h4⟩:=h
 have hn:=Step.nodup hw
 rw[map_append,nodup_append] at hn
 have hnd:(X'.map (·.d)).Nodup:=(h3.map _).nodup_iff.2 ok.sorted.nodup
 refine⟨m,clock,M,X',rfl,h2,h3,h4,by simpa using hn.1,hw.has (bs,blk 140 (stC s.k s.cap (usedX s.X) s.last m s.gets s.puts)) (by simp),hw.has (m,mapObj M clock) (by simp),fun p hp hb=>hn.2.2 p.1 (by simpa using hb) p.1 (mem_map_of_mem hp) rfl,fun p hp=>hw.has _ (by simp[hp]),hnd,?_⟩
 intro p hp
 have h1:p.1∈M.map (fun p=>p.1):=mem_map.2 ⟨p,hp,rfl⟩
 rw[h2.fst] at h1
 have ob:=mem_map.1 h1
 obtain⟨b,hb,hbe⟩:=ob
 rw[←hbe];exact ok.len b (h3.mem_iff.1 hb)
theorem Open'.look{bs:Nat}{s:AS}{D L:OL}{w:World}{m clock:Nat}{M:List MEnt}{X':List Blb} (o:Open' bs s D L w m clock M X') (ok:s.Ok) (d:U8) :
  match findX d s.X with
  | none=>findD d M 0=none
  | some b=>∃i a c,findD d M 0=some (i,.agg #[.slice a b.x.length c,.int .i64 (b.st:Nat)])∧Held D (.slice a b.x.length c) b.x:=by
 have h:=o.view.find d
 rw[findX_perm o.perm ok.sorted.nodup d] at h
 cases hx:findX d s.X with
 | none=>rw[hx] at h;exact h
 | some b=>
  rw[hx] at h
  obtain⟨i,v,h1,h2⟩:=h
  have ob:=h2.form
  obtain⟨a,c,rfl⟩:=ob
  exact⟨i,a,c,h1,h2⟩
section
variable{bs:Nat}{s:AS}{D L:OL}{w0:World}{d y:U8}{v:Value}{n:Nat}
theorem Lives.step0{L:OL}{w w':World} (h:Lives L w) (hs:Step [] [] w w'):Step (L.map (·.1)) L w w':=by
 have:=Step.call0 (L:=L) h hs
 simpa using this
theorem used_small (ok:s.Ok){b:Blb} (hb:findX d s.X=some b):b.x.length<1099511627776:=by
 have:=used_mem (findX_some hb).1
 have:=ok.used
 omega
theorem width_abs (hR:PRep bs s D L) (ok:s.Ok) (hw:Lives (L++D) w0):CP 69 #[pt bs] w0 (Ret0 (.int .i64 (s.k:Nat)) w0):=by
 have ob:=hR.open ok hw
 obtain⟨m,clock,M,X',o⟩:=ob
 exact width_spec w0 o.hb
theorem cap_abs (hR:PRep bs s D L) (ok:s.Ok) (hw:Lives (L++D) w0):CP 68 #[pt bs] w0 (Ret0 (.int .i64 (s.cap:Nat)) w0):=by
 have ob:=hR.open ok hw
 obtain⟨m,clock,M,X',o⟩:=ob
 exact cap_spec w0 o.hb
theorem used_abs (hR:PRep bs s D L) (ok:s.Ok) (hw:Lives (L++D) w0):CP 55 #[pt bs] w0 (Ret0 (.int .i64 (usedX s.X:Nat)) w0):=by
 have ob:=hR.open ok hw
 obtain⟨m,clock,M,X',o⟩:=ob
 exact used_spec w0 o.hb
theorem len_abs (hR:PRep bs s D L) (ok:s.Ok) (hw:Lives (L++D) w0):CP 29 #[pt bs] w0 (Ret0 (.int .i64 (s.X.length:Nat)) w0):=by
 have ob:=hR.open ok hw
 obtain⟨m,clock,M,X',o⟩:=ob
 have:=len_spec w0 o.hb o.hm
 rwa [o.view.length,o.perm.length_eq] at this
theorem stamp_abs (hR:PRep bs s D L) (ok:s.Ok) (hw:Lives (L++D) w0) (hd:d.length=32):CP 50 #[pt bs,.agg (u8s d).toArray] w0 (Ret0 (.int .i64 (s.stamp d:Nat)) w0):=by
 have ob:=hR.open ok hw
 obtain⟨m,clock,M,X',o⟩:=ob
 have hl:=o.look ok d
 unfold AS.stamp
 cases hx:findX d s.X with
 | none=>rw[hx] at hl;exact stamp_spec (st:=0) (n:=0) (c:=0) (a:=none) w0 o.hb o.hm o.keys hd (by rw[hl];rfl)
 | some b=>rw[hx] at hl;obtain⟨i,a,c,h1,h2⟩:=hl;exact stamp_spec w0 o.hb o.hm o.keys hd (by rw[h1];rfl)
theorem whole_abs (hR:PRep bs s D L) (ok:s.Ok) (hw:Lives (L++D) w0) (hd:d.length=32):CP 52 #[pt bs,.agg (u8s d).toArray] w0 (Ret0 (.bool (s.whole d)) w0):=by
 have ob:=hR.open ok hw
 obtain⟨m,clock,M,X',o⟩:=ob
 have hl:=o.look ok d
 unfold AS.whole
 cases hx:findX d s.X with
 | none=>rw[hx] at hl;exact whole_no w0 o.hb o.hm o.keys hd (by rw[hl];rfl) (by rw[hl];rfl)
 | some b=>rw[hx] at hl;obtain⟨i,a,c,h1,h2⟩:=hl;exact whole_yes w0 o.hb o.hm o.keys hd (by rw[h1];rfl) (by rw[h1];rfl) (h2.sl o.dat) h2.room (used_small ok hx) ok.k1 ok.k2
theorem raw_abs (hR:PRep bs s D L) (ok:s.Ok) (hw:Lives (L++D) w0) (hd:d.length=32):CP 102 #[pt bs,.agg (u8s d).toArray] w0 fun e w'=>∃v' Lv,e=.returned (.tuple #[v',.bool (s.has d)])∧OwnSl 5 1 v' (s.raw d).length (u8s (s.raw d)) Lv∧Step [] Lv w0 w':=by
 have ob:=hR.open ok hw
 obtain⟨m,clock,M,X',o⟩:=ob
 have hl:=o.look ok d
 unfold AS.has AS.raw
 cases hx:findX d s.X with
 | none=>rw[hx] at hl;exact raw_spec (st:=0) (c:=0) (a:=none) (x:=[]) w0 o.hb o.hm o.keys hd (by rw[hl];rfl) (by rw[hl];rfl) (Sl.nil _ _ _) (by simp)
 | some b=>rw[hx] at hl;obtain⟨i,a,c,h1,h2⟩:=hl;exact raw_spec w0 o.hb o.hm o.keys hd (by rw[h1];rfl) (by rw[h1];rfl) (h2.sl o.dat) (used_small ok hx)
theorem get_abs (hR:PRep bs s D L) (ok:s.Ok) (hfew:s.Few n) (hn:n<1099511627776) (hw:Lives (L++D) w0) (hd:d.length=32):CP 76 #[pt bs,.agg (u8s d).toArray] w0 fun e w'=>∃v' Lv L',e=.returned (.tuple #[v',.int .i64 ((s.get d).2:Nat)])∧OwnSl 5 1 v' (s.get d).1.length (u8s (s.get d).1) Lv∧PRep bs s.got D L'∧Step (L.map (·.1)) (L'++Lv) w0 w':=by
 have ob:=hR.open ok hw
 obtain⟨m,clock,M,X',o⟩:=ob
 have hl:=o.look ok d
 have hg:=hfew.gets
 have hP:PRep bs s.got D [(bs,blk 140 (stC s.k s.cap (usedX s.X) s.last m (s.gets+1) s.puts)),(m,mapObj M clock)]:=⟨m,clock,M,X',rfl,o.view,o.perm,o.born⟩
 rw[o.L]
 unfold AS.get
 cases hx:findX d s.X with
 | none=>
  rw[hx] at hl
  refine(get_missing o.ne w0 o.hb o.hm hd (by omega) o.keys hl).mono fun e w' ⟨h1,h2⟩=>?_
  exact⟨_,[],_,h1,OwnSl.nil _ _,hP,by simpa using h2⟩
 | some b=>
  rw[hx] at hl
  obtain⟨i,a,c,h1,h2⟩:=hl
  by_cases hk:frontL b.x s.k=d
  ·simp only[hk,if_true]
   refine(get_ok o.ne w0 o.hb o.hm hd (by omega) o.keys (by rw[h1];rfl) (by rw[h1];rfl) (h2.sl o.dat) (h2.out o.out) h2.room (used_small ok hx) ok.k1 ok.k2 hk).mono fun e w' ⟨v',Lv,h3,h4,h5⟩=>?_
   exact⟨v',Lv,_,h3,h4,hP,h5⟩
  ·simp only[hk,if_false]
   refine(get_corrupt o.ne w0 o.hb o.hm hd (by omega) o.keys (by rw[h1];rfl) (by rw[h1];rfl) (h2.sl o.dat) (h2.out o.out) h2.room (used_small ok hx) ok.k1 ok.k2 hk).mono fun e w' ⟨h3,h4⟩=>?_
   exact⟨_,[],_,h3,OwnSl.nil _ _,hP,by simpa using h4⟩
theorem limit_abs (hR:PRep bs s D L) (ok:s.Ok) (hw:Lives (L++D) w0) (c:Int):CP 54 #[pt bs,.int .i64 c] w0 fun e w'=>∃L',e=.returned (.int .i64 ((s.limit c).1:Nat))∧PRep bs (s.limit c).2 D L'∧Step (L.map (·.1)) L' w0 w':=by
 have ob:=hR.open ok hw
 obtain⟨m,clock,M,X',o⟩:=ob
 unfold AS.limit
 by_cases hc:0≤c∧c≤67108864
 ·simp only[hc,and_self,if_true]
  have ob:∃k:Nat,c=k:=⟨c.toNat,by omega⟩
  obtain⟨c,rfl⟩:=ob
  rw[o.L]
  refine(limit_ok (by omega) w0 o.hb).mono fun e w' ⟨h1,h2⟩=>?_
  refine⟨_,h1,⟨m,clock,M,X',rfl,o.view,o.perm,o.born⟩,?_⟩
  have hl:=hw
  rw[o.L] at hl
  have h3:Step [bs,m] [(bs,blk 140 (stC s.k c (usedX s.X) s.last m s.gets s.puts)),(m,mapObj M clock)] w0 w':=Step.call (L1:=[_]) (L:=[_]) (Lives.left hl) h2
  simpa using h3
 ·rw[if_neg hc]
  refine(limit_bad hc w0).mono fun e w' ⟨h1,h2⟩=>?_
  exact⟨L,h1,hR,(Lives.left hw).step0 h2⟩
theorem evict_abs (hR:PRep bs s D L) (ok:s.Ok) (hw:Lives (L++D) w0) (hd:d.length=32):CP 34 #[pt bs,.agg (u8s d).toArray] w0 fun e w'=>∃L',e=.returned (.bool (s.has d))∧PRep bs (s.evict d) D L'∧Step (L.map (·.1)) L' w0 w':=by
 have ob:=hR.open ok hw
 obtain⟨m,clock,M,X',o⟩:=ob
 have hl:=o.look ok d
 unfold AS.has
 cases hx:findX d s.X with
 | none=>
  rw[hx] at hl
  refine(evict_no w0 o.hb o.hm o.keys hd hl).mono fun e w' ⟨h1,h2⟩=>?_
  have e1:s.evict d=s:=by unfold AS.evict;rw[delX_none hx]
  exact⟨L,h1,by rw[e1];exact hR,(Lives.left hw).step0 h2⟩
 | some b=>
  rw[hx] at hl
  obtain⟨i,a,c,h1,h2⟩:=hl
  have hu:=used_del ok.sorted d
  rw[hx] at hu
  simp only at hu
  have hok:=ok.used
  rw[o.L]
  refine(evict_yes o.ne w0 o.hb o.hm o.keys hd h1 (h2.sl o.dat) (used_small ok hx) (by omega) (by omega) (h2.out o.out)).mono fun e w' ⟨h3,h4⟩=>?_
  have e1:usedX s.X - (b.x.length+32)=usedX (delX d s.X):=by omega
  rw[e1] at h4
  exact⟨_,h3,⟨m,clock,delM d M,delX d X',rfl,o.view.del o.nodup d,delX_perm o.perm d,o.born.del d⟩,h4⟩
end
section
variable{bs:Nat}{s:AS}{D L:OL}{w0:World}{d y:U8}{v:Value}{n:Nat}
theorem laid_rep{m clock puts:Nat}{M:List MEnt}{X':List Blb}{v':Value}{Lv:OL} (hv:View D M X') (hp:X'.Perm s.X) (hB:Born M clock) (hs:SortedX s.X) (hO:OwnSl 5 1 v' y.length (u8s y) Lv) :
  PRep bs { s with last:=s.last+1,puts:=puts,X:=insX ⟨d,y,s.last+1⟩ s.X } (Lv++D)
   [(bs,blk 140 (stC s.k s.cap (usedX (insX ⟨d,y,s.last+1⟩ s.X)) (s.last+1) m s.gets puts)),(m,mapObj (putM d (.agg #[v',.int .i64 (s.last+1:Nat)]) clock M) (putC d clock M))]:=by
 have hn:(X'.map (·.d)).Nodup:=(hp.map _).nodup_iff.2 hs.nodup
 have ob:=(hv.mono (D':=Lv++D) (fun p hp=>mem_append_right _ hp)).put (b:=⟨d,y,s.last+1⟩) hn ⟨Lv,hO,fun p hp=>mem_append_left _ hp⟩ clock
 obtain⟨X2,h1,h2⟩:=ob
 exact⟨m,_,_,X2,rfl,h1,h2.trans (((delX_perm hp d).cons _).trans (insX_perm _ hs).symm),hB.put d _⟩
theorem put_abs (hR:PRep bs s D L) (ok:s.Ok) (hfew:s.Few n) (hn:n<1099511627776) (hw:Lives (L++D) w0) (hy:Sl w0 1 v y.length (u8s y)) (hr:Room v) (hO:OutE v y (L.map (·.1))) (hsy:y.length<1099511627776) :
  CP 36 #[pt bs,v] w0 fun e w'=>∃L' D',e=.returned (.tuple #[.agg (u8s (s.put y).1).toArray,.int .i64 ((s.put y).2.1:Nat)])∧PRep bs (s.put y).2.2 (D'++D) L'∧Step (L.map (·.1)) (L'++D') w0 w':=by
 have ob:=hR.open ok hw
 obtain⟨m,clock,M,X',o⟩:=ob
 rw[o.L] at hO⊢
 replace hO:OutE v y [bs,m]:=hO
 have hp:=hfew.puts
 have hla:=hfew.last
 have hfl:=frontL_len (x:=y) ok.k2
 have hl:=o.look ok (frontL y s.k)
 have hu:=used_ins ok.sorted ⟨frontL y s.k,y,s.last+1⟩
 simp only at hu
 have huse:=ok.used
 have hstay:∀(r:Value) (e:Ending) (w':World),(e=.returned r∧Step [bs,m] [(bs,blk 140 (stC s.k s.cap (usedX s.X) s.last m s.gets (s.puts+1))),(m,mapObj M clock)] w0 w')→∃L' D',e=.returned r∧PRep bs { s with puts:=s.puts+1 } (D'++D) L'∧Step ([(bs,blk 140 (stC s.k s.cap (usedX s.X) s.last m s.gets s.puts)),(m,mapObj M clock)].map (·.1)) (L'++D') w0 w':=by
  rintro r e w' ⟨h1,h2⟩
  exact⟨_,[],h1,⟨m,clock,M,X',rfl,o.view,o.perm,o.born⟩,by simpa using h2⟩
 unfold AS.put
 simp only
 by_cases hlong:1048576<y.length
 ·rw[if_pos hlong]
  exact(put_long o.ne w0 o.hb o.hm hy (by omega) hlong).mono (hstay _)
 ·rw[if_neg hlong]
  cases hx:findX (frontL y s.k) s.X with
  | none=>
   rw[hx] at hl hu
   simp only at hl hu⊢
   unfold AS.lay
   simp only
   refine(put_most (x:=[]) (a:=none) (c:=0) (st:=0) (b:=false) (N:=usedX (insX ⟨frontL y s.k,y,s.last+1⟩ s.X)) o.ne w0 o.hb o.hm o.keys (by rw[hl];rfl) (by rw[hl];rfl) (Sl.nil _ _ _) trivial (Nat.le_refl _) (by simp) hy hO hr (by omega) hsy (by omega) ok.k1 ok.k2 (by omega) (by omega) (fun h=>by cases h) (fun h=>by cases h) (fun _=>by omega)).mono ?_
   rintro e w' (⟨h,_⟩ | ⟨h,_⟩ | ⟨_,hc,h⟩ | ⟨_,hc,v',Lv,h1,h2,h3⟩)
   ·cases h
   ·cases h
   ·rw[if_neg (by omega)]
    exact hstay _ _ _ h
   ·rw[if_pos hc]
    exact⟨_,Lv,h1,laid_rep o.view o.perm o.born ok.sorted h2,h3⟩
  | some b=>
   rw[hx] at hl hu
   simp only at hu⊢
   obtain⟨i,a,c,h1,h2⟩:=hl
   have hub:=used_mem (findX_some hx).1
   unfold AS.lay
   simp only
   refine(put_most (b:=true) (N:=usedX (insX ⟨frontL y s.k,y,s.last+1⟩ s.X)) o.ne w0 o.hb o.hm o.keys (by rw[h1];rfl) (by rw[h1];rfl) (h2.sl o.dat) (h2.out o.out) h2.room (by omega) hy hO hr (by omega) hsy (by omega) ok.k1 ok.k2 (by omega) (by omega) (fun _=>hub) (fun _=>by omega) (fun h=>by cases h)).mono ?_
   rintro e w' (⟨_,hxy,h⟩ | ⟨_,hxy,hcl,h⟩ | ⟨hdi,hc,h⟩ | ⟨hdi,hc,v',Lv,h3,h4,h5⟩)
   ·rw[if_pos hxy]
    exact hstay _ _ _ h
   ·rw[if_neg hxy,if_pos hcl]
    exact hstay _ _ _ h
   ·rw[if_neg (hdi rfl).1,if_neg (hdi rfl).2,if_neg (by omega)]
    exact hstay _ _ _ h
   ·rw[if_neg (hdi rfl).1,if_neg (hdi rfl).2,if_pos hc]
    exact⟨_,Lv,h3,laid_rep o.view o.perm o.born ok.sorted h4,h5⟩
theorem plant_abs (hR:PRep bs s D L) (ok:s.Ok) (hfew:s.Few n) (hn:n<1099511627776) (hw:Lives (L++D) w0) (hd:d.length=32) (hy:Sl w0 1 v y.length (u8s y)) (hO:OutE v y (L.map (·.1))) (hsy:y.length<1099511627776) :
  CP 35 #[pt bs,.agg (u8s d).toArray,v] w0 fun e w'=>∃L' D',e=.returned (.int .i64 ((s.plant d y).1:Nat))∧PRep bs (s.plant d y).2 (D'++D) L'∧Step (L.map (·.1)) (L'++D') w0 w':=by
 have ob:=hR.open ok hw
 obtain⟨m,clock,M,X',o⟩:=ob
 rw[o.L] at hO⊢
 replace hO:OutE v y [bs,m]:=hO
 have hla:=hfew.last
 have hl:=o.look ok d
 have hu:=used_ins ok.sorted ⟨d,y,s.last+1⟩
 simp only at hu
 have huse:=ok.used
 have hP:∀w',Step [bs,m] [(bs,blk 140 (stC s.k s.cap (usedX s.X) s.last m s.gets s.puts)),(m,mapObj M clock)] w0 w'→∃L' D',PRep bs s (D'++D) L'∧Step [bs,m] (L'++D') w0 w':=fun w' h2=>⟨_,[],⟨m,clock,M,X',rfl,o.view,o.perm,o.born⟩,by simpa using h2⟩
 have hlv:=hw
 rw[o.L] at hlv
 have hstay0:∀w',Step [] [] w0 w'→∃L' D',PRep bs s (D'++D) L'∧Step [bs,m] (L'++D') w0 w':=fun w' h2=>hP w' ((Lives.left hlv).step0 h2)
 unfold AS.plant
 by_cases hf:fitsL d s.k=false
 ·rw[if_pos hf]
  refine(plant_arg w0 o.hb hd ok.k1 ok.k2 hf).mono fun e w' ⟨h1,h2⟩=>?_
  have ob:=hstay0 w' h2
  obtain⟨L',D',h3,h4⟩:=ob
  exact⟨L',D',h1,h3,h4⟩
 ·rw[if_neg hf]
  replace hf:fitsL d s.k=true:=by simpa using hf
  by_cases hlong:1048576<y.length
  ·rw[if_pos hlong]
   refine(plant_long o.ne w0 o.hb o.hm hd hf hy hsy hlong).mono fun e w' ⟨h1,h2⟩=>?_
   have ob:=hstay0 w' h2
   obtain⟨L',D',h3,h4⟩:=ob
   exact⟨L',D',h1,h3,h4⟩
  ·rw[if_neg hlong]
   unfold AS.lay
   cases hx:findX d s.X with
   | none=>
    rw[hx] at hl hu
    simp only at hl hu
    by_cases hc:usedX (insX ⟨d,y,s.last+1⟩ s.X)≤s.cap
    ·rw[if_pos hc]
     simp only
     refine(plant_ok (x:=[]) (a:=none) (n:=0) (c:=0) (st:=0) (b:=false) o.ne w0 o.hb o.hm hd hf o.keys (by rw[hl];rfl) (by rw[hl];rfl) hy hO hsy (by omega) (by simp) (by omega) (by omega) (fun h=>by cases h) (fun h=>by cases h) (fun _=>rfl) (by omega)).mono fun e w' ⟨v',Lv,h1,h2,h3⟩=>?_
     rw[show usedX s.X+(y.length+32)=usedX (insX ⟨d,y,s.last+1⟩ s.X) by omega] at h3
     exact⟨_,Lv,h1,laid_rep o.view o.perm o.born ok.sorted h2,h3⟩
    ·rw[if_neg hc]
     simp only
     refine(plant_full (x:=[]) (a:=none) (n:=0) (c:=0) (st:=0) (b:=false) o.ne w0 o.hb o.hm hd hf o.keys (by rw[hl];rfl) (by rw[hl];rfl) hy hO hsy (by omega) (by simp) (by omega) (fun h=>by cases h) (fun h=>by cases h) (fun _=>by omega)).mono fun e w' ⟨h1,h2⟩=>?_
     have ob:=hP w' h2
     obtain⟨L',D',h3,h4⟩:=ob
     exact⟨L',D',h1,h3,h4⟩
   | some b=>
    rw[hx] at hl hu
    simp only at hu
    obtain⟨i,a,c,h1,h2⟩:=hl
    have hub:=used_mem (findX_some hx).1
    by_cases hc:usedX (insX ⟨d,y,s.last+1⟩ s.X)≤s.cap
    ·rw[if_pos hc]
     simp only
     refine(plant_ok (x:=[]) (b:=true) o.ne w0 o.hb o.hm hd hf o.keys (by rw[h1];rfl) (by rw[h1];rfl) hy hO hsy (by omega) (by omega) (by omega) (by omega) (fun _=>hub) (fun _=>rfl) (fun h=>by cases h) (by omega)).mono fun e w' ⟨v',Lv,h3,h4,h5⟩=>?_
     rw[show usedX s.X+(y.length+32) - (b.x.length+32)=usedX (insX ⟨d,y,s.last+1⟩ s.X) by omega] at h5
     exact⟨_,Lv,h3,laid_rep o.view o.perm o.born ok.sorted h4,h5⟩
    ·rw[if_neg hc]
     simp only
     refine(plant_full (x:=[]) (b:=true) o.ne w0 o.hb o.hm hd hf o.keys (by rw[h1];rfl) (by rw[h1];rfl) hy hO hsy (by omega) (by omega) (by omega) (fun _=>hub) (fun _=>by omega) (fun h=>by cases h)).mono fun e w' ⟨h3,h4⟩=>?_
     have ob:=hP w' h4
     obtain⟨L',D',h5,h6⟩:=ob
     exact⟨L',D',h3,h5,h6⟩
def newS (k c:Nat):AS:=⟨k,c,0,0,0,[]⟩
theorem newS_ok{k c:Nat} (hk1:1≤k) (hk:k≤32) (hc:c≤67108864):(newS k c).Ok:=⟨hk1,hk,hc,List.Pairwise.nil,fun b hb=>(by cases hb),(by simp[newS,usedX])⟩
theorem newS_few{k c:Nat}:(newS k c).Few 0:=⟨Nat.le_refl _,Nat.le_refl _,Nat.le_refl _⟩
theorem new_abs{k c:Nat} (hk1:1≤k) (hk:k≤32) (hc:c≤67108864) (w:World):CP 56 #[.int .i64 k,.int .i64 c] w fun e w'=>∃bs L',e=.returned (.tuple #[pt bs,.int .i64 0])∧PRep bs (newS k c) [] L'∧Step [] L' w w':=
 (new_ok hk1 hk hc w).mono fun e w' ⟨bs,m,h1,h2⟩=>⟨bs,_,h1,⟨m,0,[],[],rfl,.nil,List.Perm.refl _,⟨fun p hp=>(by cases hp),(by simp)⟩⟩,h2⟩
theorem view_fst2{M M2:List MEnt}{X:List Blb} (h:View D M X) (hp:(M2.map (fun p=>(p.1,p.2.1))).Perm (M.map (fun p=>(p.1,p.2.1)))):∃X2,View D M2 X2∧X2.Perm X:=by
 have key:∀(N:List (List UInt8×Value)) (M:List MEnt) (X:List Blb),View D M X→N.Perm (M.map (fun p=>(p.1,p.2.1)))→∀M2:List MEnt,M2.map (fun p=>(p.1,p.2.1))=N→∃X2,View D M2 X2∧X2.Perm X:=by
  intro N
  induction N with
  | nil=>
   intro M X hv hN M2 hM2
   have hl:=hN.length_eq
   simp only[length_nil,length_map] at hl
   obtain rfl:=eq_nil_of_length_eq_zero hl.symm
   cases hv
   obtain rfl:M2=[]:=by simpa using hM2
   exact⟨[],.nil,List.Perm.refl _⟩
  | cons q N ih=>
   intro M X hv hN M2 hM2
   have hq:q∈M.map (fun p=>(p.1,p.2.1)):=hN.mem_iff.1 (by simp)
   have ob:=mem_map.1 hq
   obtain⟨p,hp,rfl⟩:=ob
   have ob:=append_of_mem hp
   obtain⟨A,B,rfl⟩:=ob
   have split:∀(A:List MEnt) (X:List Blb),View D (A++p::B) X→∃XA b XB,X=XA++b::XB∧EntB D p b∧View D (A++B) (XA++XB):=by
    intro A
    induction A with
    | nil=>
     intro X hX
     cases hX with
     | cons hb hX=>exact⟨[],_,_,rfl,hb,hX⟩
    | cons a A ihA=>
     intro X hX
     cases hX with
     | cons hb hX=>
      have ob:=ihA _ hX
      obtain⟨XA,b,XB,rfl,h1,h2⟩:=ob
      exact⟨_::XA,b,XB,rfl,h1,.cons hb h2⟩
   have ob:=split A X hv
   obtain⟨XA,b,XB,rfl,hb,hv'⟩:=ob
   cases M2 with
   | nil=>simp at hM2
   | cons p2 M2=>
    rw[map_cons,List.cons.injEq] at hM2
    have hN':N.Perm ((A++B).map (fun p=>(p.1,p.2.1))):=by
     have:((p.1,p.2.1)::N).Perm ((p.1,p.2.1)::(A++B).map (fun p=>(p.1,p.2.1))):=hN.trans (by
      rw[map_append,map_cons,map_append]
      exact perm_middle)
     exact(perm_cons _).1 this
    have ob:=ih _ _ hv' hN' M2 hM2.2
    obtain⟨X2,h1,h2⟩:=ob
    have hpe:=hM2.1
    rw[Prod.mk.injEq] at hpe
    refine⟨b::X2,.cons ⟨hpe.1.trans hb.1,?_⟩ h1,(h2.cons b).trans perm_middle.symm⟩
    have ob:=hb.2
    obtain⟨v,h3,h4⟩:=ob
    exact⟨v,hpe.2.trans h3,h4⟩
 exact key _ M X h hp M2 rfl
theorem twin_abs (hR:PRep bs s D L) (ok:s.Ok) (hw:Lives (L++D) w0):CP 48 #[pt bs] w0 fun e w'=>∃bt L',e=.returned (pt bt)∧PRep bt s D L'∧Step [] L' w0 w':=by
 have ob:=hR.open ok hw
 obtain⟨m,clock,M,X',o⟩:=ob
 have hK:(M.map (fun p=>p.1)).Nodup:=by rw[o.view.fst];exact o.nodup
 refine(twin_spec w0 o.hb o.hm o.keys o.born hK o.view.blobV).mono fun e w' ⟨bt,m2,M2,h1,h2,h3,h4⟩=>?_
 have ob:=view_fst2 o.view h2
 obtain⟨X2,h5,h6⟩:=ob
 exact⟨bt,_,h1,⟨m2,_,M2,X2,rfl,h5,h6.trans o.perm,h3⟩,h4⟩
end
def posX (d:(List UInt8)):List Blb→Nat
 | []=>0
 | b::X=>if ltD b.d d=true then posX d X+1 else 0
theorem posX_le (d:U8):∀X,posX d X≤X.length
 | []=>Nat.le_refl _
 | b::X=>by
  rw[posX]
  split
  ·have:=posX_le d X;simp only[length_cons];omega
  ·exact Nat.zero_le _
theorem posX_drop (d:U8):∀(X:List Blb) (i:Nat),i≤X.length→(∀j b,j<i→X[j]?=some b→ltD b.d d=true)→posX d X=i+posX d (X.drop i)
 | X,0,_,_=>by simp
 | [],i+1,h,_=>by simp at h
 | b::X,i+1,h,hl=>by
  rw[posX,if_pos (hl 0 b (by omega) rfl),posX_drop d X i (by simpa using h) (fun j c hj hc=>hl (j+1) c (by omega) (by simpa using hc))]
  simp only[drop_succ_cons]
  omega
theorem posX_at{d:U8}{X:List Blb}{i:Nat}{b:Blb} (h:X[i]?=some b) (hl:ltD b.d d=false):posX d (X.drop i)=0:=by
 have ob:=List.getElem?_eq_some_iff.1 h
 obtain⟨hlt,rfl⟩:=ob
 rw[drop_eq_getElem_cons hlt,posX,if_neg (by rw[hl];simp)]
theorem pos_find{d:U8}:∀{X:List Blb},SortedX X→(X[posX d X]?).bind (fun b=>if b.d=d then some b else none)=findX d X
 | [],_=>rfl
 | b::X,h=>by
  rw[SortedX,pairwise_cons] at h
  rw[posX,findX,List.find?_cons]
  by_cases hl:ltD b.d d=true
  ·rw[if_pos hl,getElem?_cons_succ,pos_find h.2]
   have:b.d≠d:=ltD_ne hl
   simp only[this,decide_false]
   rfl
  ·rw[if_neg hl]
   simp only[getElem?_cons_zero,Option.bind_some]
   by_cases he:b.d=d
   ·simp[he]
   ·simp only[he,if_false,decide_false]
    have hlt:ltD d b.d=true:=by
     cases h2:ltD d b.d with
     | true=>rfl
     | false=>exact absurd (ltD_tri _ _ (by simpa using hl) h2) he
    symm
    rw[List.find?_eq_none]
    intro c hc
    have:=ltD_trans _ _ _ hlt (h.1 c hc)
    simpa using(ltD_ne this).symm
theorem pos_some{d:U8}{X:List Blb} (h:SortedX X){c:Blb} (hf:findX d X=some c):X[posX d X]?=some c∧c.d=d:=by
 have h1:=pos_find (d:=d) h
 rw[hf] at h1
 cases hx:X[posX d X]? with
 | none=>rw[hx] at h1;cases h1
 | some b=>
  rw[hx] at h1
  simp only[Option.bind_some] at h1
  split at h1
  ·rename_i he
   obtain rfl:=Option.some.inj h1
   exact⟨rfl,he⟩
  ·cases h1
theorem ins_there{b:Blb}:∀{X:List Blb},SortedX X→(findX b.d X).isSome=true→insX b X=X.set (posX b.d X) b
 | [],_,h=>by cases h
 | c::X,h,hf=>by
  rw[SortedX,pairwise_cons] at h
  rw[insX,posX]
  by_cases hc:c.d=b.d
  ·rw[if_pos hc,if_neg (by rw[hc,ltD_irrefl];simp)]
   rfl
  ·rw[if_neg hc]
   rw[findX,List.find?_cons] at hf
   simp only[hc,decide_false] at hf
   by_cases hl:ltD b.d c.d=true
   ·exfalso
    have ob:=Option.isSome_iff_exists.1 hf
    obtain⟨e,he⟩:=ob
    have hm:=mem_of_find?_eq_some he
    have h1:=List.find?_some he
    have:=ltD_ne (ltD_trans _ _ _ hl (h.1 e hm))
    simp at h1
    exact this h1.symm
   ·rw[if_neg hl]
    have hcb:ltD c.d b.d=true:=by
     cases h2:ltD c.d b.d with
     | true=>rfl
     | false=>exact absurd (ltD_tri _ _ h2 (by simpa using hl)) hc
    rw[if_pos hcb,ins_there h.2 hf]
    rfl
theorem ins_new{b:Blb}:∀{X:List Blb},SortedX X→findX b.d X=none→insX b X=X.take (posX b.d X)++b::X.drop (posX b.d X)
 | [],_,_=>rfl
 | c::X,h,hf=>by
  rw[SortedX,pairwise_cons] at h
  rw[insX,posX]
  by_cases hc:c.d=b.d
  ·rw[findX,List.find?_cons] at hf
   simp[hc] at hf
  ·rw[if_neg hc]
   rw[findX,List.find?_cons] at hf
   simp only[hc,decide_false] at hf
   by_cases hl:ltD b.d c.d=true
   ·rw[if_pos hl,if_neg (by rw[ltD_asymm hl];simp)]
    rfl
   ·rw[if_neg hl]
    have hcb:ltD c.d b.d=true:=by
     cases h2:ltD c.d b.d with
     | true=>rfl
     | false=>exact absurd (ltD_tri _ _ h2 (by simpa using hl)) hc
    rw[if_pos hcb,ins_new h.2 hf]
    rfl
theorem del_pos{d:U8}:∀{X:List Blb},SortedX X→(findX d X).isSome=true→delX d X=X.take (posX d X)++X.drop (posX d X+1)
 | [],_,h=>by cases h
 | c::X,h,hf=>by
  rw[SortedX,pairwise_cons] at h
  rw[posX]
  by_cases hc:c.d=d
  ·have hd:delX d (c::X)=X:=by
    rw[delX,filter_cons,if_neg (by simpa using hc),filter_eq_self]
    intro e he
    have:=h.1 e he
    rw[hc] at this
    simpa using(ltD_ne this).symm
   rw[hd,if_neg (by rw[hc,ltD_irrefl];simp)]
   rfl
  ·rw[findX,List.find?_cons] at hf
   simp only[hc,decide_false] at hf
   have hd:delX d (c::X)=c::delX d X:=by
    rw[delX,filter_cons,if_pos (by simpa using hc)]
    rfl
   have hl:ltD c.d d=true:=by
    have ob:=Option.isSome_iff_exists.1 hf
    obtain⟨e,he⟩:=ob
    have hm:=mem_of_find?_eq_some he
    have h1:=List.find?_some he
    simp at h1
    rw[←h1];exact h.1 e hm
   rw[hd,if_pos hl,del_pos h.2 hf]
   rfl
theorem rless_spec{x y:U8} (hx:x.length=32) (hy:y.length=32) (w0:World):CP 157 #[.agg (u8s x).toArray,.agg (u8s y).toArray] w0 (Ret0 (.bool (ltD x y)) w0):=by
 have hs:Step [] [] w0 w0:=Step.refl w0
 have hxl:(u8s x).length=32:=by rw[u8s,length_map,hx]
 have hyl:(u8s y).length=32:=by rw[u8s,length_map,hy]
 have hdrop:∀(i:Nat) (x y:U8),i≤x.length→i≤y.length→(∀j,j<i→x[j]?=y[j]?)→ltD x y=ltD (x.drop i) (y.drop i):=by
  intro i
  induction i with
  | zero=>intro x y _ _ _;rfl
  | succ i ih=>
   intro x y h1 h2 h3
   match x,y,h1,h2 with
   | a::x,b::y,h1,h2=>
    have h0:=h3 0 (by omega)
    simp only[getElem?_cons_zero,Option.some.injEq] at h0
    subst h0
    rw[ltD,if_neg (by rw[UInt8.lt_iff_toNat_lt];omega),if_neg (by rw[UInt8.lt_iff_toNat_lt];omega),drop_succ_cons,drop_succ_cons]
    exact ih x y (by simpa using h1) (by simpa using h2) (fun j hj=>by have:=h3 (j+1) (by omega);simpa using this)
 refine calls (n:=24) Tryz.func157 rfl rfl rfl ?_
 refine sr<|WL.box (cs:=u8s x) rfl rfl rfl hs (fun b2 w hs=>?_)
 refine WL.box (cs:=u8s y) rfl rfl rfl hs (fun b3 w hs=>?_)
 refine wA<|wZ<|cq<|sr<|wA<|wZ<|cB<|CW.loop (fun m f w'=>∃i,i≤32∧m=32 - i∧(∀j,j<i→x[j]?=y[j]?)∧Step [] [(b3,blk 201 (u8s y)),(b2,blk 201 (u8s x))] w0 w'∧Holds f [(2,pt b2),(3,pt b3),(5,.int .i64 (i:Nat))]) (m:=32) ?_ ?_
 ·exact⟨0,by omega,rfl,fun j hj=>by omega,hs,rfl,rfl,rfl,trivial⟩
 ·rintro m f w ⟨i,hi,rfl,heq,hs,hf⟩
  have ob:=hf.chain
  obtain⟨g,rfl⟩:=ob
  by_cases hlt:i<32
  ·have ob:∃a,x[i]?=some a:=⟨_,getElem?_eq_getElem (by omega)⟩
   obtain⟨a,ha⟩:=ob
   have ob:∃b,y[i]?=some b:=⟨_,getElem?_eq_getElem (by omega)⟩
   obtain⟨b,hb⟩:=ob
   have hca:(u8s x)[0+i*1]?=some (.int .u8 a.toNat):=by simp[u8s,ha]
   have hcb:(u8s y)[0+i*1]?=some (.int .u8 b.toNat):=by simp[u8s,hb]
   have e1:=hdrop i x y (by omega) (by omega) heq
   rw[drop_eq_getElem_cons (by omega),drop_eq_getElem_cons (show i<y.length by omega)] at e1
   have hxa:x[i]=a:=(List.getElem?_eq_some_iff.1 ha).2
   have hyb:y[i]=b:=(List.getElem?_eq_some_iff.1 hb).2
   rw[hxa,hyb,ltD] at e1
   by_cases hab:a=b
   ·subst hab
    refine cq<|sr<|wm<|lT<|wZ<|cT rfl<|ck<|cq<|cB<|cq<|CW.quiet mixedP (by kernel_rfl) hs ?_
    refine qm<|qV (fun w hs=>run_ixArrN u201 ty5 rfl rfl (by omega))<|qL ty5 rfl (fun w hs=>hs.c1 hca)<|qm<|qV (fun w hs=>run_ixArrN u201 ty5 rfl rfl (by omega))<|qL ty5 rfl (fun w hs=>hs.c0 hcb)<|qV (fun w hs=>run_bF (run_neq rfl rfl) (by simp))<|QL.nil (fun w hs=>?_)
    refine CW.cond rfl (fun h=>?_) (fun h=>?_)
    ·cases h
    refine ck<|cr<|wm<|wP ((i+1:Nat):Int)<|wA<|wZ<|(show _∧_ from⟨rfl,_,?_,i+1,by omega,rfl,?_,hs,rfl,rfl,rfl,trivial⟩)
    ·omega
    ·intro j hj
     by_cases hji:j=i
     ·subst hji;rw[ha,hb]
     ·exact heq j (by omega)
   ·have hne:(a.toNat:Int)≠b.toNat:=fun e=>hab (UInt8.toNat_inj.1 (by omega))
    refine cq<|sr<|wm<|lT<|wZ<|cT rfl<|ck<|cq<|cB<|cq<|CW.quiet mixedP (by kernel_rfl) hs ?_
    refine qm<|qV (fun w hs=>run_ixArrN u201 ty5 rfl rfl (by omega))<|qL ty5 rfl (fun w hs=>hs.c1 hca)<|qm<|qV (fun w hs=>run_ixArrN u201 ty5 rfl rfl (by omega))<|qL ty5 rfl (fun w hs=>hs.c0 hcb)<|qV (fun w hs=>run_bT (run_neq rfl rfl) (by exact hne))<|QL.nil (fun w hs=>?_)
    refine CW.cond rfl (fun h=>?_) (fun h=>?_)
    ·have e2:decide ((a.toNat:Int)<b.toNat)=ltD x y:=by
      rw[e1]
      by_cases h1:a<b
      ·rw[if_pos h1,decide_eq_true];rw[UInt8.lt_iff_toNat_lt] at h1;omega
      ·have h2:b<a:=by rw[UInt8.lt_iff_toNat_lt] at *;omega
       rw[if_neg h1,if_pos h2,decide_eq_false]
       rw[UInt8.lt_iff_toNat_lt] at h1;omega
     refine cq<|CW.quiet mixedP (by kernel_rfl) hs ?_
     refine qm<|qV (fun w hs=>run_ixArrN u201 ty5 rfl rfl (by omega))<|qL ty5 rfl (fun w hs=>hs.c1 hca)<|qm<|qV (fun w hs=>run_ixArrN u201 ty5 rfl rfl (by omega))<|qL ty5 rfl (fun w hs=>hs.c0 hcb)<|qV (fun w hs=>run_lss rfl rfl)<|qA<|QL.nil (fun w hs=>?_)
     refine CW.ret ?_
     refine fin_ret1 rfl ?_
     exact⟨congrArg (fun b=>Ending.returned (.bool b)) e2,hs.clear⟩
    ·cases h
  ·obtain rfl:i=32:=by omega
   have e:ltD x y=false:=by
    have:x=y:=by
     apply ext_getElem?
     intro j
     by_cases hj:j<32
     ·exact heq j hj
     ·rw[getElem?_eq_none (by omega),getElem?_eq_none (by omega)]
    subst this
    exact ltD_irrefl x
   refine cq<|sr<|wm<|lF<|wZ<|cF rfl<|CW.exit<|sr<|wA<|wZ<|CW.ret ?_
   refine fin_ret1 rfl ?_
   exact⟨congrArg (fun b=>Ending.returned (.bool b)) e.symm,hs.clear⟩
abbrev RB:=(List UInt8)×Value×Nat
def rbC (t:RB):List Value:=u8s t.1++[t.2.1,.int .i64 (t.2.2:Nat)]
def rowsT (T:List RB):List Value:=(T.map rbC).flatten
def rsC (k cap last:Nat) (v:Value) (gets puts:Nat):List Value:=[.int .i64 k,.int .i64 cap,.int .i64 last,v,.int .i64 gets,.int .i64 puts]
def RbB (D:(List (Nat×Obj))) (t:RB) (b:Blb):Prop:=t.1=b.d∧t.2.2=b.st∧Held D t.2.1 b.x
inductive RView (D:(List (Nat×Obj))):List RB→List Blb→Prop
 | nil:RView D [] []
 | cons{t:RB}{b:Blb}{T:List RB}{X:List Blb}:RbB D t b→RView D T X→RView D (t::T) (b::X)
theorem RbB.mono {D D':OL}{t:RB}{b:Blb} (h:RbB D t b) (hD:∀p∈D,p∈D'):RbB D' t b:=⟨h.1,h.2.1,h.2.2.mono hD⟩
theorem RView.mono {D D':OL}{T:List RB}{X:List Blb} (h:RView D T X) (hD:∀p∈D,p∈D'):RView D' T X:=by
 induction h with
 | nil=>exact .nil
 | cons h _ ih=>exact .cons (h.mono hD) ih
theorem RView.length{D:OL}{T:List RB}{X:List Blb} (h:RView D T X):T.length=X.length:=by
 induction h with
 | nil=>rfl
 | cons _ _ ih=>simp[ih]
theorem RView.at{D:OL}{T:List RB}{X:List Blb} (h:RView D T X):∀{i:Nat}{b:Blb},X[i]?=some b→∃t,T[i]?=some t∧RbB D t b:=by
 induction h with
 | nil=>intro i b hb;simp at hb
 | cons h _ ih=>
  intro i b hb
  cases i with
  | zero=>rw[getElem?_cons_zero] at hb;obtain rfl:=Option.some.inj hb;exact⟨_,rfl,h⟩
  | succ i=>exact ih hb
theorem RView.take{D:OL}{T:List RB}{X:List Blb} (h:RView D T X):∀(i:Nat),RView D (T.take i) (X.take i):=by
 induction h with
 | nil=>intro i;simp;exact .nil
 | cons h _ ih=>intro i;cases i with
  | zero=>exact .nil
  | succ i=>exact .cons h (ih i)
theorem RView.drop{D:OL}{T:List RB}{X:List Blb} (h:RView D T X):∀(i:Nat),RView D (T.drop i) (X.drop i):=by
 induction h with
 | nil=>intro i;simp;exact .nil
 | cons h hT ih=>intro i;cases i with
  | zero=>exact .cons h hT
  | succ i=>exact ih i
theorem RView.append{D:OL}{T T':List RB}{X X':List Blb} (h:RView D T X) (h':RView D T' X'):RView D (T++T') (X++X'):=by
 induction h with
 | nil=>exact h'
 | cons h _ ih=>exact .cons h ih
theorem RView.set{D:OL}{T:List RB}{X:List Blb} (h:RView D T X){t:RB}{b:Blb} (hb:RbB D t b):∀(i:Nat),RView D (T.set i t) (X.set i b):=by
 induction h with
 | nil=>intro i;exact .nil
 | cons h hT ih=>intro i;cases i with
  | zero=>exact .cons hb hT
  | succ i=>exact .cons h (ih i)
theorem RView.len32{D:OL}{T:List RB}{X:List Blb} (h:RView D T X) (hX:∀b∈X,b.d.length=32):∀t∈T,t.1.length=32:=by
 induction h with
 | nil=>intro t ht;cases ht
 | cons h _ ih=>
  intro t ht
  rcases mem_cons.1 ht with rfl | ht
  ·rw[h.1];exact hX _ (by simp)
  ·exact ih (fun b hb=>hX b (by simp[hb])) t ht
theorem rbC_len{t:RB} (h:t.1.length=32):(rbC t).length=34:=by simp[rbC,u8s,h]
theorem rowsT_len{T:List RB} (h:∀t∈T,t.1.length=32):(rowsT T).length=T.length*34:=by
 induction T with
 | nil=>rfl
 | cons t T ih=>
  have:=ih (fun t ht=>h t (by simp[ht]))
  rw[rowsT] at this
  rw[rowsT,map_cons,flatten_cons,length_append,rbC_len (h t (by simp)),length_cons];omega
theorem rowsT_append (T T':List RB):rowsT (T++T')=rowsT T++rowsT T':=by simp[rowsT]
theorem rowsT_at:∀(T:List RB),(∀t∈T,t.1.length=32)→∀(i j:Nat) (t:RB),T[i]?=some t→j<34→(rowsT T)[i*34+j]?=(rbC t)[j]?
 | [],_,i,j,t,h,_=>by simp at h
 | r::T,hl,0,j,t,h,hj=>by
  rw[getElem?_cons_zero] at h
  obtain rfl:=Option.some.inj h
  rw[rowsT,map_cons,flatten_cons,Nat.zero_mul,Nat.zero_add,getElem?_append_left (by rw[rbC_len (hl _ (by simp))];exact hj)]
 | r::T,hl,i+1,j,t,h,hj=>by
  rw[rowsT,map_cons,flatten_cons,getElem?_append_right (by rw[rbC_len (hl _ (by simp))];omega),rbC_len (hl _ (by simp)),show(i+1)*34+j - 34=i*34+j by omega]
  exact rowsT_at T (fun t ht=>hl t (by simp[ht])) i j t h hj
theorem At.rowT{W:World}{b off:Nat}{T:List RB} (h:At W b off (rowsT T)) (hl:∀t∈T,t.1.length=32){i:Nat}{t:RB} (ht:T[i]?=some t):At W b (off+i*34) (rbC t):=by
 intro j v hj
 have hj34:j<34:=by
  have:=(List.getElem?_eq_some_iff.1 hj).1
  rw[rbC_len (hl t (mem_of_getElem? ht))] at this;exact this
 rw[Nat.add_assoc]
 exact h _ _ ((rowsT_at T hl i j t ht hj34).trans hj)
theorem rbC_fst{t:RB} (h:t.1.length=32):(rbC t).take 32=u8s t.1:=by rw[rbC,take_append_of_le_length (by simp[u8s,h]),take_of_length_le (by simp[u8s,h])]
theorem rbC_32{t:RB} (h:t.1.length=32):(rbC t)[32]?=some t.2.1:=by
 have h:(u8s t.1).length=32:=by simp[u8s,h]
 rw[rbC,getElem?_append_right (by omega),h]
 rfl
theorem rbC_33{t:RB} (h:t.1.length=32):(rbC t)[33]?=some (.int .i64 (t.2.2:Nat)):=by
 have h:(u8s t.1).length=32:=by simp[u8s,h]
 rw[rbC,getElem?_append_right (by omega),h]
 rfl
def RRep (br:Nat) (s:AS) (D R:(List (Nat×Obj))):Prop:=
 ∃v Lv T,R=(br,blk 54 (rsC s.k s.cap s.last v s.gets s.puts))::Lv∧OwnSl 80 34 v s.X.length (rowsT T) Lv∧RView D T s.X
theorem RRep.mono{br:Nat}{s:AS}{D D' R:OL} (h:RRep br s D R) (hD:∀p∈D,p∈D'):RRep br s D' R:=by
 obtain⟨v,Lv,T,h1,h2,h3⟩:=h
 exact⟨v,Lv,T,h1,h2,h3.mono hD⟩
structure ROpen (br:Nat) (s:AS) (D R:(List (Nat×Obj))) (w:World) (a:Option Addr) (c:Nat) (Lv:(List (Nat×Obj))) (T:List RB):Prop where
 eqR:R=(br,blk 54 (rsC s.k s.cap s.last (.slice a s.X.length c) s.gets s.puts))::Lv
 own:OwnSl 80 34 (.slice a s.X.length c) s.X.length (rowsT T) Lv
 view:RView D T s.X
 hb:w.heap[br]?=some (blk 54 (rsC s.k s.cap s.last (.slice a s.X.length c) s.gets s.puts))
 out:∀p∈D,p.1∉R.map (·.1)
 dat:∀p∈D,w.heap[p.1]?=some p.2
 len:∀t∈T,t.1.length=32
 rows:s.X=[]∨∃b,a=some ⟨b,0,none⟩∧At w b 0 (rowsT T)
theorem RRep.open{br:Nat}{s:AS}{D R:OL}{w:World} (h:RRep br s D R) (ok:s.Ok) (hw:Lives (R++D) w):∃a c Lv T,ROpen br s D R w a c Lv T:=by
 obtain⟨v,Lv,T,rfl,h2,h3⟩:=h
 have hn:=Step.nodup hw
 rw[map_append,nodup_append] at hn
 have ob:=h2.form
 obtain⟨a,c,rfl⟩:=ob
 refine⟨a,c,Lv,T,rfl,h2,h3,hw.has (br,blk 54 (rsC s.k s.cap s.last (.slice a s.X.length c) s.gets s.puts)) (by simp),fun p hp hb=>hn.2.2 p.1 hb p.1 (mem_map_of_mem hp) rfl,fun p hp=>hw.has _ (by simp[hp]),h3.len32 ok.len,?_⟩
 obtain⟨hl,⟨h4,h5,h6⟩ | ⟨b,cap,more,h4,h5,h6⟩⟩:=h2
 ·exact .inl (eq_nil_of_length_eq_zero h5)
 ·have ob:=Value.slice.inj h4
  obtain⟨rfl,-,rfl⟩:=ob
  refine .inr ⟨b,rfl,?_⟩
  have:w.heap[b]?=some (blk 80 (rowsT T++more)):=hw.has (b,blk 80 (rowsT T++more)) (by simp[h5])
  exact(At.of_blk this).left
section
variable{br:Nat}{s:AS}{D R Lv:OL}{w0:World}{d y:U8}{v:Value}{a:Option Addr}{c:Nat}{T:List RB}
theorem ROpen.row (o:ROpen br s D R w0 a c Lv T){i:Nat}{b:Blb} (hb:s.X[i]?=some b):∃bv v,a=some ⟨bv,0,none⟩∧Held D v b.x∧At w0 bv (0+i*34) (rbC (b.d,v,b.st)):=by
 rcases o.rows with h | ⟨bv,h1,h2⟩
 ·rw[h] at hb;simp at hb
 ·have ob:=o.view.at hb
  obtain⟨t,ht,h3,h4,h5⟩:=ob
  obtain⟨td,tv,ts⟩:=t
  simp only at h3 h4 h5
  subst h3 h4
  exact⟨bv,tv,h1,h5,h2.rowT o.len ht⟩
theorem ROpen.step{w:World} (o:ROpen br s D R w0 a c Lv T) (h:Step [] [] w0 w):ROpen br s D R w a c Lv T:=
 ⟨o.eqR,o.own,o.view,h.old o.hb (by simp),o.out,fun p hp=>h.old (o.dat p hp) (by simp),o.len,by
  rcases o.rows with h1 | ⟨b,h1,h2⟩
  ·exact .inl h1
  ·exact .inr ⟨b,h1,h2.step h (by simp)⟩⟩
theorem place_spec (o:ROpen br s D R w0 a c Lv T) (ok:s.Ok) (hd:d.length=32):CP 115 #[pt br,.agg (u8s d).toArray] w0 (Ret0 (.tuple #[.int .i64 (posX d s.X:Nat),.bool (s.has d)]) w0):=by
 have hs:Step [] [] w0 w0:=Step.refl w0
 have hat:At w0 br 0 (rsC s.k s.cap s.last (.slice a s.X.length c) s.gets s.puts):=At.of_blk o.hb
 have hdl:(u8s d).length=32:=by rw[u8s,length_map,hd]
 have hple:=posX_le d s.X
 have hpf:=pos_find (d:=d) ok.sorted
 have hsmall:=used_len s.X
 have huse:=ok.used
 have hhas:s.has d=(findX d s.X).isSome:=rfl
 refine calls (n:=48) Tryz.func115 rfl rfl rfl ?_
 refine sr<|WL.box (cs:=u8s d) rfl rfl rfl hs (fun b3 w hs=>?_)
 refine wA<|wA<|wZ<|sr<|wA<|wZ<|cq<|cB<|CW.loop (fun m f w'=>∃i,i≤s.X.length∧m=s.X.length - i∧(∀j b,j<i→s.X[j]?=some b→ltD b.d d=true)∧Step [] [(b3,blk 44 (u8s d))] w0 w'∧Holds f [(0,pt br),(3,pt b3),(6,.int .i64 (i:Nat))]) (m:=s.X.length) ?_ ?_
 ·exact⟨0,Nat.zero_le _,rfl,fun j b hj=>by omega,hs,rfl,rfl,rfl,trivial⟩
 ·rintro m f w ⟨i,hi,rfl,hless,hs,hf⟩
  have ob:=hf.chain
  obtain⟨g,rfl⟩:=ob
  have hpd:=posX_drop d s.X i hi hless
  by_cases hlt:i<s.X.length
  ·have ob:∃b,s.X[i]?=some b:=⟨_,getElem?_eq_getElem hlt⟩
   obtain⟨b,hb⟩:=ob
   have ob:=o.row hb
   obtain⟨bv,v,rfl,hv,hrow⟩:=ob
   have hbl:=ok.len b (mem_of_getElem? hb)
   have hbdl:(u8s b.d).length=32:=by rw[u8s,length_map,hbl]
   have hless1:=fun w=>rless_spec hbl hd w
   have hrd:At w0 bv (0+i*34+0) (u8s b.d):=by have h:=hrow.take 32;rw[rbC_fst hbl] at h;exact h
   cases hltd:ltD b.d d
   ·rw[hltd] at hless1
    have hpi:posX d s.X=i:=by rw[hpd,posX_at hb hltd];omega
    rw[hpi,hb,Option.bind_some] at hpf
    refine cq<|cq<|CW.quiet mixedP (by kernel_rfl) hs ?_
    refine qm<|qm<|qn rfl<|qF 3 u54 rfl ty52 rfl<|qL ty52 rfl (fun w hs=>(hat.step hs.clear (by simp)).cell (j:=3) rfl)<|qV (fun w hs=>run_lenSl u52 rfl)<|qV (fun w hs=>run_bT (run_lss rfl rfl) (by omega))<|qm<|qy<|qm<|qy<|qn rfl<|qy<|qF 3 u54 rfl ty52 rfl ?_
    refine qy<|qL ty52 rfl (fun w hs=>(hat.step hs.clear (by simp)).cell (j:=3) rfl)<|qy<|qm ?_
    refine qy ?_;(first | refine QL.val rfl (fun w hs=>run_ixSlN u52 ty80 rfl rfl (by omega)) ?_ | refine QL.val rfl (fun w hs=>run_ixSl u52 ty80 rfl rfl (by omega)) ?_)
    refine qy<|qF 0 u80 rfl ty44 rfl<|qy<|qV (fun w hs=>run_loadN ty44 rfl hbdl (hrd.step hs.clear (by simp)))<|qy<|qV (fun w hs=>run_loadN ty44 rfl hdl hs.a0)<|qy<|QL.enter rfl (fun w=>run_call en157 rfl rfl) (fun w hs=>hless1 _) ?_
    refine qT<|QL.nil (fun w hs=>?_)
    refine CW.cond rfl (fun h=>?_) (fun h=>?_)
    ·cases h
    have e:decide (b.d=d)=s.has d:=by
     rw[hhas,←hpf]
     by_cases h:b.d=d <;> simp[h]
    refine CW.exit<|cq<|CW.quiet mixedP (by kernel_rfl) hs ?_
    refine qm<|qm<|qm<|qn rfl<|qF 3 u54 rfl ty52 rfl<|qL ty52 rfl (fun w hs=>(hat.step hs.clear (by simp)).cell (j:=3) rfl)<|qV (fun w hs=>run_lenSl u52 rfl)<|qV (fun w hs=>run_bT (run_lss rfl rfl) (by omega))<|qm<|qy<|qm<|qy<|qn rfl<|qy<|qF 3 u54 rfl ty52 rfl ?_
    refine qy<|qL ty52 rfl (fun w hs=>(hat.step hs.clear (by simp)).cell (j:=3) rfl)<|qy<|qm ?_
    refine qy ?_;(first | refine QL.val rfl (fun w hs=>run_ixSlN u52 ty80 rfl rfl (by omega)) ?_ | refine QL.val rfl (fun w hs=>run_ixSl u52 ty80 rfl rfl (by omega)) ?_)
    refine qy<|qF 0 u80 rfl ty44 rfl<|qy<|qV (fun w hs=>run_loadN ty44 rfl hbdl (hrd.step hs.clear (by simp)))<|qy<|qV (fun w hs=>run_loadN ty44 rfl hdl hs.a0)<|qy<|qV (fun w hs=>run_eqDig hbl hd rfl rfl)<|qT<|qA<|qA<|QL.nil (fun w hs=>?_)
    refine CW.ret ?_
    refine fin_ret2 rfl ?_
    have e2:(Value.tuple #[.int .i64 (i:Nat),.bool (decide (b.d=d))])=.tuple #[.int .i64 (posX d s.X:Nat),.bool (s.has d)]:=by rw[e,hpi]
    exact⟨congrArg Ending.returned e2,hs.clear⟩
   ·rw[hltd] at hless1
    refine cq<|cq<|CW.quiet mixedP (by kernel_rfl) hs ?_
    refine qm<|qm<|qn rfl<|qF 3 u54 rfl ty52 rfl<|qL ty52 rfl (fun w hs=>(hat.step hs.clear (by simp)).cell (j:=3) rfl)<|qV (fun w hs=>run_lenSl u52 rfl)<|qV (fun w hs=>run_bT (run_lss rfl rfl) (by omega))<|qm<|qy<|qm<|qy<|qn rfl<|qy<|qF 3 u54 rfl ty52 rfl ?_
    refine qy<|qL ty52 rfl (fun w hs=>(hat.step hs.clear (by simp)).cell (j:=3) rfl)<|qy<|qm ?_
    refine qy ?_;(first | refine QL.val rfl (fun w hs=>run_ixSlN u52 ty80 rfl rfl (by omega)) ?_ | refine QL.val rfl (fun w hs=>run_ixSl u52 ty80 rfl rfl (by omega)) ?_)
    refine qy<|qF 0 u80 rfl ty44 rfl<|qy<|qV (fun w hs=>run_loadN ty44 rfl hbdl (hrd.step hs.clear (by simp)))<|qy<|qV (fun w hs=>run_loadN ty44 rfl hdl hs.a0)<|qy<|QL.enter rfl (fun w=>run_call en157 rfl rfl) (fun w hs=>hless1 _) ?_
    refine qT<|QL.nil (fun w hs=>?_)
    refine CW.cond rfl (fun h=>?_) (fun h=>?_)
    ·refine ck<|cB<|cr<|wm<|wP ((i+1:Nat):Int)<|wA<|wZ<|(show _∧_ from⟨rfl,_,?_,i+1,hlt,rfl,?_,hs,rfl,rfl,rfl,trivial⟩)
     ·omega
     ·intro j e hj he
      by_cases hji:j=i
      ·subst hji;rw[hb] at he;obtain rfl:=Option.some.inj he;exact hltd
      ·exact hless j e (by omega) he
    ·cases h
  ·obtain rfl:i=s.X.length:=by omega
   have hpi:posX d s.X=s.X.length:=by rw[hpd];simp[posX]
   rw[hpi,getElem?_eq_none (Nat.le_refl _)] at hpf
   have e:false=s.has d:=by rw[hhas,←hpf];rfl
   refine cq<|cq<|CW.quiet mixedP (by kernel_rfl) hs ?_
   refine qm<|qm<|qn rfl<|qF 3 u54 rfl ty52 rfl<|qL ty52 rfl (fun w hs=>(hat.step hs.clear (by simp)).cell (j:=3) rfl)<|qV (fun w hs=>run_lenSl u52 rfl)<|qV (fun w hs=>run_bF (run_lss rfl rfl) (by omega))<|qm<|qz<|qz<|qz<|qz<|qz<|qz ?_
   refine qz<|qz<|qz<|qz<|qP<|QL.nil (fun w hs=>?_)
   refine CW.cond rfl (fun h=>?_) (fun h=>?_)
   ·cases h
   refine CW.exit<|cq<|CW.quiet mixedP (by kernel_rfl) hs ?_
   refine qm<|qm<|qm<|qn rfl<|qF 3 u54 rfl ty52 rfl<|qL ty52 rfl (fun w hs=>(hat.step hs.clear (by simp)).cell (j:=3) rfl)<|qV (fun w hs=>run_lenSl u52 rfl)<|qV (fun w hs=>run_bF (run_lss rfl rfl) (by omega))<|qm<|qz<|qz<|qz<|qz<|qz ?_
   refine qz<|qz<|qz<|qz<|qz<|qP<|qA<|qA<|QL.nil (fun w hs=>?_)
   refine CW.ret ?_
   refine fin_ret2 rfl ?_
   have e2:(Value.tuple #[.int .i64 (s.X.length:Nat),.bool false])=.tuple #[.int .i64 (posX d s.X:Nat),.bool (s.has d)]:=by rw[e,hpi]
   exact⟨congrArg Ending.returned e2,hs.clear⟩
end
section
variable{br:Nat}{s:AS}{D R Lv:OL}{w0:World}{d y:U8}{v:Value}{a:Option Addr}{c:Nat}{T:List RB}
theorem usedX_snoc (X:List Blb) (b:Blb):usedX (X++[b])=usedX X+(b.x.length+32):=by simp[usedX]
theorem usedX_take_le (X:List Blb) (i:Nat):usedX (X.take i)≤usedX X:=by
 induction X generalizing i with
 | nil=>simp
 | cons b X ih=>cases i with
  | zero=>exact Nat.zero_le _
  | succ i=>rw[take_succ_cons,usedX_cons,usedX_cons];have:=ih i;omega
theorem rused_spec (o:ROpen br s D R w0 a c Lv T) (ok:s.Ok):CP 67 #[pt br] w0 (Ret0 (.int .i64 (usedX s.X:Nat)) w0):=by
 have hs:Step [] [] w0 w0:=Step.refl w0
 have hat:At w0 br 0 (rsC s.k s.cap s.last (.slice a s.X.length c) s.gets s.puts):=At.of_blk o.hb
 have hsmall:=used_len s.X
 have huse:=ok.used
 refine calls (n:=27) Tryz.func67 rfl rfl rfl ?_
 refine sr<|wA<|wZ<|sr<|wA<|wZ<|cq<|sr<|wA<|wZ<|cB ?_
 refine CW.loop (fun m f w'=>∃i,i≤s.X.length∧m=s.X.length - i∧Step [] [] w0 w'∧Holds f [(0,pt br),(3,.int .i64 (usedX (s.X.take i):Nat)),(4,.int .i64 (i:Nat))]) (m:=s.X.length) ?_ ?_
 ·exact⟨0,Nat.zero_le _,rfl,hs,rfl,rfl,rfl,trivial⟩
 ·rintro m f w ⟨i,hi,rfl,hs,hf⟩
  have ob:=hf.chain
  obtain⟨g,rfl⟩:=ob
  have htk:=usedX_take_le s.X i
  by_cases hlt:i<s.X.length
  ·have ob:∃b,s.X[i]?=some b:=⟨_,getElem?_eq_getElem hlt⟩
   obtain⟨b,hb⟩:=ob
   have ob:=o.row hb
   obtain⟨bv,v,rfl,hv,hrow⟩:=ob
   have hbl:=ok.len b (mem_of_getElem? hb)
   have hbu:=used_mem (mem_of_getElem? hb)
   have ob:=hv.form
   obtain⟨va,vc,rfl⟩:=ob
   have e:usedX (s.X.take (i+1))=usedX (s.X.take i)+b.x.length+32:=by
    rw[take_add_one,hb,Option.toList_some,usedX_snoc];omega
   have h32:w0.cell? ⟨bv,0+i*34+32,none⟩=some (.slice va b.x.length vc):=hrow.cell (rbC_32 hbl)
   have hcell:∀{L:OL}{w:World},Step [] L w0 w→w.cell? ⟨bv,0+i*34+32,none⟩=some (.slice va b.x.length vc):=fun {L w} h=>(hrow.step h.clear (by simp)).cell (rbC_32 hbl)
   refine cq<|sr<|wm<|wm<|wn rfl<|wF 3 u54 rfl ty52 rfl<|wl ty52 rfl ((hat.step hs.clear (by simp)).cell (j:=3) rfl)<|wL u52 rfl<|lT<|wZ<|CW.cond rfl (fun h=>?_) (fun h=>?_)
   ·refine ck<|cq<|cB<|cr<|wm<|wm<|wn rfl<|wF 3 u54 rfl ty52 rfl<|wl ty52 rfl ((hat.step hs.clear (by simp)).cell (j:=3) rfl)<|wm<|wI u52 ty80 rfl rfl<|wF 32 u80 rfl ty76 rfl<|wl ty76 rfl (hcell hs)<|wL u76 rfl<|wP ((usedX (s.X.take i)+b.x.length:Nat):Int)<|wP ((usedX (s.X.take (i+1)):Nat):Int)<|wA<|wZ<|cr<|wm<|wP ((i+1:Nat):Int)<|wA<|wZ ?_
    refine(show _∧_ from⟨rfl,_,?_,i+1,hlt,rfl,hs,rfl,rfl,rfl,trivial⟩)
    omega
   ·cases h
  ·obtain rfl:i=s.X.length:=by omega
   have e:usedX (s.X.take s.X.length)=usedX s.X:=by rw[take_length]
   refine cq<|sr<|wm<|wm<|wn rfl<|wF 3 u54 rfl ty52 rfl<|wl ty52 rfl ((hat.step hs.clear (by simp)).cell (j:=3) rfl)<|wL u52 rfl<|lF<|wZ<|CW.cond rfl (fun h=>?_) (fun h=>?_)
   ·cases h
   ·refine CW.exit<|sr<|wm<|wA<|wZ<|CW.ret ?_
    refine fin_ret1 rfl ?_
    exact⟨congrArg (fun n:Nat=>Ending.returned (.int .i64 (n:Int))) e,hs⟩
theorem room_spec (o:ROpen br s D R w0 a c Lv T) (ok:s.Ok) (hd:d.length=32){n:Nat} (hn:n<1099511627776):CP 113 #[pt br,.agg (u8s d).toArray,.int .i64 (n:Nat)] w0 (Ret0 (.bool (decide (usedX (delX d s.X)+(n+32)≤s.cap))) w0):=by
 have hs:Step [] [] w0 w0:=Step.refl w0
 have hat:At w0 br 0 (rsC s.k s.cap s.last (.slice a s.X.length c) s.gets s.puts):=At.of_blk o.hb
 have hdl:(u8s d).length=32:=by rw[u8s,length_map,hd]
 have huse:=ok.used
 have hcap:=ok.cap
 have hud:=used_del ok.sorted d
 have hpos:=fun{c:Blb} (h:findX d s.X=some c)=>pos_some ok.sorted h
 have hpl:=fun w (h:Step [] [] w0 w)=>place_spec (d:=d) (o.step h) ok hd
 have hus:=fun w (h:Step [] [] w0 w)=>rused_spec (o.step h) ok
 unfold AS.has at hpl
 cases hf:findX d s.X with
 | none=>
  rw[hf] at hpl hud
  simp only at hud
  refine calls (n:=40) Tryz.func113 rfl rfl rfl ?_
  refine sr<|WL.box (cs:=u8s d) rfl rfl rfl hs (fun b4 w hs=>?_)
  refine wA<|wZ<|sr<|wm<|wR ty44 rfl hdl hs.a0<|wE rfl (run_call en115 rfl rfl) (hpl _ hs.clear) ?_
  rintro e w ⟨rfl,hq⟩
  refine⟨_,rfl,?_⟩
  replace hs:=hs.callE hq
  refine wm<|wx rfl rfl<|wx rfl rfl<|wA<|wA<|wZ<|sr<|wm<|wE rfl (run_call en67 rfl rfl) (hus _ hs.clear) ?_
  rintro e w ⟨rfl,hq⟩
  refine⟨_,rfl,?_⟩
  replace hs:=hs.callE hq
  refine wm<|wP ((usedX s.X+n:Nat):Int)<|wP ((usedX s.X+n+32:Nat):Int)<|wA<|wZ<|cq<|sr<|wm<|wZ<|CW.cond rfl (fun h=>?_) (fun h=>?_)
  ·cases h
  have e:decide (((usedX s.X+n+32:Nat):Int)≤(s.cap:Nat))=decide (usedX (delX d s.X)+(n+32)≤s.cap):=decide_eq_decide.2 (by omega)
  refine ck<|sr<|wm<|wm<|wn rfl<|wF 1 u54 rfl ty3 rfl<|wl ty3 rfl ((hat.step hs.clear (by simp)).cell (j:=1) rfl)<|wV (run_leq rfl rfl)<|wA<|wZ<|CW.ret ?_
  refine fin_ret1 rfl ?_
  exact⟨congrArg (fun b=>Ending.returned (.bool b)) e,hs.clear⟩
 | some b=>
  rw[hf] at hpl hud
  simp only at hud
  have ob:=hpos hf
  obtain⟨hb,hbd⟩:=ob
  have ob:=o.row hb
  obtain⟨bv,v,rfl,hv,hrow⟩:=ob
  have hlt:=(List.getElem?_eq_some_iff.1 hb).1
  have hbl:=ok.len b (mem_of_getElem? hb)
  have ob:=hv.form
  obtain⟨va,vc,rfl⟩:=ob
  have hcell:∀{L:OL}{w:World},Step [] L w0 w→w.cell? ⟨bv,0+posX d s.X*34+32,none⟩=some (.slice va b.x.length vc):=fun {L w} h=>(hrow.step h.clear (by simp)).cell (rbC_32 hbl)
  refine calls (n:=40) Tryz.func113 rfl rfl rfl ?_
  refine sr<|WL.box (cs:=u8s d) rfl rfl rfl hs (fun b4 w hs=>?_)
  refine wA<|wZ<|sr<|wm<|wR ty44 rfl hdl hs.a0<|wE rfl (run_call en115 rfl rfl) (hpl _ hs.clear) ?_
  rintro e w ⟨rfl,hq⟩
  refine⟨_,rfl,?_⟩
  replace hs:=hs.callE hq
  refine wm<|wx rfl rfl<|wx rfl rfl<|wA<|wA<|wZ<|sr<|wm<|wE rfl (run_call en67 rfl rfl) (hus _ hs.clear) ?_
  rintro e w ⟨rfl,hq⟩
  refine⟨_,rfl,?_⟩
  replace hs:=hs.callE hq
  refine wm<|wP ((usedX s.X+n:Nat):Int)<|wP ((usedX s.X+n+32:Nat):Int)<|wA<|wZ<|cq<|sr<|wm<|wZ<|CW.cond rfl (fun h=>?_) (fun h=>?_)
  ·skip
   refine cr<|wm<|wm<|wn rfl<|wF 3 u54 rfl ty52 rfl<|wl ty52 rfl ((hat.step hs.clear (by simp)).cell (j:=3) rfl)<|wm<|wI u52 ty80 rfl rfl<|wF 32 u80 rfl ty76 rfl<|wl ty76 rfl (hcell hs)<|wL u76 rfl<|wS ((usedX s.X+n+32 - b.x.length:Nat):Int)<|wS ((usedX s.X+n+32 - b.x.length - 32:Nat):Int)<|wA<|wZ ?_
   have e:decide (((usedX s.X+n+32 - b.x.length - 32:Nat):Int)≤(s.cap:Nat))=decide (usedX (delX d s.X)+(n+32)≤s.cap):=decide_eq_decide.2 (by omega)
   refine sr<|wm<|wm<|wn rfl<|wF 1 u54 rfl ty3 rfl<|wl ty3 rfl ((hat.step hs.clear (by simp)).cell (j:=1) rfl)<|wV (run_leq rfl rfl)<|wA<|wZ<|CW.ret ?_
   refine fin_ret1 rfl ?_
   exact⟨congrArg (fun b=>Ending.returned (.bool b)) e,hs.clear⟩
  ·cases h
theorem ofR_spec{k:Nat} (w0:World) (hv:Sl w0 1 v y.length (u8s y)) (hsz:y.length<1099511627776) (hk1:1≤k) (hk:k≤32):CP 61 #[.int .i64 (k:Nat),v] w0 (Ret0 (.agg (u8s (frontL y k)).toArray) w0):=by
 have hs:Step [] [] w0 w0:=Step.refl w0
 have hl2:(u8s (frontL y k)).length=32:=by rw[u8s,length_map,frontL_len hk]
 refine calls (n:=10) Tryz.func61 rfl rfl rfl ?_
 refine sr<|WL.alloc ty44 rfl hs (fun b4 w hs=>?_)
 refine wZ<|sr<|wm<|wm<|wE rfl (run_call en111 rfl rfl) (refFront_spec _ (hv.step0 hs.clear) hsz hk1 hk) ?_
 rintro e w ⟨rfl,hq⟩
 refine⟨_,rfl,?_⟩
 replace hs:=hs.callE hq
 refine WL.alloc ty201 rfl hs (fun b5 w hs=>?_)
 refine WL.storeAll ty201 rfl rfl ((hl2)) (Cells1.u8s _) hs (by rfl) (fun w hs=>?_)
 refine wZ<|sr<|wR ty201 rfl hl2 hs.a0<|WL.storeAll ty44 rfl rfl (hl2) (Cells1.u8s _) (hs.swap) rfl (fun w hs=>?_)
 refine wZ<|CW.ret ?_
 refine fin_cell1 rfl rfl (run_loadVarN ty44 (by assumption) hs.a0) ?_
 exact⟨rfl,hs.clear⟩
theorem sameR_spec{u v:Value}{x y:U8} (w0:World) (hu:Sl w0 1 u x.length (u8s x)) (hv:Sl w0 1 v y.length (u8s y)):CP 121 #[u,v] w0 (Ret0 (.bool (decide (x=y))) w0):=by
 have hs:Step [] [] w0 w0:=Step.refl w0
 refine calls (n:=10) Tryz.func121 rfl rfl rfl ?_
 refine sr<|wA<|wZ<|sr<|wm<|wV (run_toString u76 u9 u5 rfl (hu.step0 hs))<|wm<|wV (run_toString u76 u9 u5 rfl (hv.step0 hs))<|wV (run_strEq rfl rfl)<|wA<|wZ<|CW.ret ?_
 refine fin_ret1 rfl ?_
 exact⟨rfl,hs⟩
theorem rnew_width{k c:Int} (hk:k<1∨32<k) (w:World):CP 58 #[.int .i64 k,.int .i64 c] w (Ret0 (.tuple #[.pointer none,.int .i64 3]) w):=by
 have hs:Step [] [] w w:=Step.refl w
 by_cases h1:k<1
 ·refine calls (n:=22) Tryz.func58 rfl rfl rfl ?_
  refine sr<|wA<|wA<|wZ<|cq<|sr<|wm<|wV (run_bT (run_lss rfl rfl) (by exact h1))<|wm<|wz<|wz<|pT<|wZ ?_
  refine CW.cond rfl (fun h=>?_) (fun h=>?_)
  ·refine sr<|wA<|wA<|wZ<|CW.ret ?_
   refine fin_ret2 rfl ?_
   exact⟨rfl,hs.clear⟩
  ·cases h
 ·have h2:k > 32:=by omega
  refine calls (n:=22) Tryz.func58 rfl rfl rfl ?_
  refine sr<|wA<|wA<|wZ<|cq<|sr<|wm<|wV (run_bF (run_lss rfl rfl) (by exact h1))<|wm<|wy<|wm<|wy<|wV (run_bT (run_gtr rfl rfl) (by exact h2))<|pF<|wZ ?_
  refine CW.cond rfl (fun h=>?_) (fun h=>?_)
  ·refine sr<|wA<|wA<|wZ<|CW.ret ?_
   refine fin_ret2 rfl ?_
   exact⟨rfl,hs.clear⟩
  ·cases h
theorem rnew_arg{k c:Int} (hk1:1≤k) (hk:k≤32) (hc:¬(0≤c∧c≤67108864)) (w:World):CP 58 #[.int .i64 k,.int .i64 c] w (Ret0 (.tuple #[.pointer none,.int .i64 1]) w):=by
 have hs:Step [] [] w w:=Step.refl w
 by_cases h1:c<0
 ·refine calls (n:=22) Tryz.func58 rfl rfl rfl ?_
  refine sr<|wA<|wA<|wZ<|cq<|sr<|wm<|lF<|wm<|wy<|wm<|wy<|xF<|pF<|wZ ?_
  refine CW.cond rfl (fun h=>?_) (fun h=>?_)
  ·cases h
  refine ck<|cq<|sr<|wm<|wV (run_bT (run_lss rfl rfl) (by exact h1))<|wm<|wz<|wz<|pT<|wZ<|CW.cond rfl (fun h=>?_) (fun h=>?_)
  ·refine sr<|wA<|wA<|wZ<|CW.ret ?_
   refine fin_ret2 rfl ?_
   exact⟨rfl,hs.clear⟩
  ·cases h
 ·have h2:c > 67108864:=by omega
  refine calls (n:=22) Tryz.func58 rfl rfl rfl ?_
  refine sr<|wA<|wA<|wZ<|cq<|sr<|wm<|lF<|wm<|wy<|wm<|wy<|xF<|pF<|wZ ?_
  refine CW.cond rfl (fun h=>?_) (fun h=>?_)
  ·cases h
  refine ck<|cq<|sr<|wm<|wV (run_bF (run_lss rfl rfl) (by exact h1))<|wm<|wy<|wm<|wy<|wV (run_bT (run_gtr rfl rfl) (by exact h2))<|pF<|wZ<|CW.cond rfl (fun h=>?_) (fun h=>?_)
  ·refine sr<|wA<|wA<|wZ<|CW.ret ?_
   refine fin_ret2 rfl ?_
   exact⟨rfl,hs.clear⟩
  ·cases h
theorem bld_rstore (k c:Int) (w:World):(Instr.build 54 #[(0,.int .i64 k),(1,.int .i64 c)]).run Tryz.prog w=.ok (.agg #[.int .i64 k,.int .i64 c,.int .i64 0,.slice none 0 0,.int .i64 0,.int .i64 0]) w:=by kernel_rfl
theorem rnew_abs{k c:Nat} (hk1:1≤k) (hk:k≤32) (hc:c≤67108864) (w:World):CP 58 #[.int .i64 (k:Nat),.int .i64 (c:Nat)] w fun e w'=>∃br R,e=.returned (.tuple #[pt br,.int .i64 0])∧RRep br (newS k c) [] R∧Step [] R w w':=by
 have hs:Step [] [] w w:=Step.refl w
 refine calls (n:=22) Tryz.func58 rfl rfl rfl ?_
 refine sr<|wA<|wA<|wZ<|cq<|sr<|wm<|lF<|wm<|wy<|wm<|wy<|xF<|pF<|wZ ?_
 refine CW.cond rfl (fun h=>?_) (fun h=>?_)
 ·cases h
 refine ck<|cq<|sr<|wm<|lF<|wm<|wy<|wm<|wy<|xF<|pF<|wZ<|CW.cond rfl (fun h=>?_) (fun h=>?_)
 ·cases h
 refine ck<|sr<|wm<|wm<|wV (run_build rfl ((bld_rstore _ _ _)))<|WL.box (cs:=rsC k c 0 (.slice none 0 0) 0 0) rfl rfl rfl hs (fun b21 w hs=>?_)
 refine wA<|wA<|wZ<|CW.ret ?_
 refine fin_ret2 rfl ?_
 exact⟨b21,_,rfl,⟨_,[],[],rfl,OwnSl.nil _ _,.nil⟩,hs⟩
end
theorem run_neDig{f:Slots}{w:World}{dd:Option Tmp}{ty:TypeId}{pos:String}{af:Array Edge}{x y:Operand}{T':TypeId}{a b:U8} (ha:a.length=32) (hb:b.length=32) (hx:ev f x=.agg (u8s a).toArray) (hy:ev f y=.agg (u8s b).toArray) :
  (execOp (ev f) ⟨dd,.binOp .neq 44 x y T',ty,pos,af,none⟩).run Tryz.prog w=.ok (.value (.bool (decide (¬a=b)))) w:=
 run_neqAgg u8l_iff dig_key (dig_formed ha) (dig_formed hb) dig_guard hx hy (dig_lits ha) (dig_lits hb)
section
variable{br:Nat}{s:AS}{D R Lv:OL}{w0:World}{d y:U8}{v:Value}{a:Option Addr}{c:Nat}{T:List RB}
end
section
variable{br:Nat}{s:AS}{D R:OL}{w0:World}{d y:U8}{v:Value}{n:Nat}
theorem RRep.head{a:Option Addr}{c:Nat}{Lv:OL}{T:List RB} (o:ROpen br s D R w0 a c Lv T) (k cap last gets puts:Nat):RRep br ⟨k,cap,last,gets,puts,s.X⟩ D ((br,blk 54 (rsC k cap last (.slice a s.X.length c) gets puts))::Lv):=
 ⟨_,Lv,T,rfl,o.own,o.view⟩
theorem Lives.kept {L L' D:OL}{w w':World} (hw:Lives (L++D) w) (h:Step (L.map (·.1)) L' w w'):Lives (L'++D) w':=
 Step.own (L1:=L'++D) (L:=[]) (by rw[append_nil];exact Step.call (L1:=L) (L:=D) hw h)
end
def cutV (a:Option Addr) (lo hi c:Nat):Value:=match a with | none=>.slice none 0 0 | some ad=>cutSl 34 ad.block 0 lo hi c
theorem bld_rb32 (a0 a1 a2 a3 a4 a5 a6 a7 a8 a9 a10 a11 a12 a13 a14 a15 a16 a17 a18 a19 a20 a21 a22 a23 a24 a25 a26 a27 a28 a29 a30 a31:UInt8) (a:Option Addr) (n c:Nat) (z:Int) (w:World):(Instr.build 80 #[(0,.agg (u8s [a0,a1,a2,a3,a4,a5,a6,a7,a8,a9,a10,a11,a12,a13,a14,a15,a16,a17,a18,a19,a20,a21,a22,a23,a24,a25,a26,a27,a28,a29,a30,a31]).toArray),(1,.slice a n c),(2,.int .i64 z)]).run Tryz.prog w=.ok (.agg (u8s [a0,a1,a2,a3,a4,a5,a6,a7,a8,a9,a10,a11,a12,a13,a14,a15,a16,a17,a18,a19,a20,a21,a22,a23,a24,a25,a26,a27,a28,a29,a30,a31]++[Value.slice a n c,.int .i64 z]).toArray) w:=by kernel_rfl
theorem bld_rb{d:U8} (hd:d.length=32) (a:Option Addr) (n c:Nat) (st:Nat) (w:World):(Instr.build 80 #[(0,.agg (u8s d).toArray),(1,.slice a n c),(2,.int .i64 (st:Nat))]).run Tryz.prog w=.ok (.agg (rbC (d,.slice a n c,st)).toArray) w:=by
 have ob:=cells32 hd
 obtain⟨a0,a1,a2,a3,a4,a5,a6,a7,a8,a9,a10,a11,a12,a13,a14,a15,a16,a17,a18,a19,a20,a21,a22,a23,a24,a25,a26,a27,a28,a29,a30,a31,rfl⟩:=ob
 exact bld_rb32 a0 a1 a2 a3 a4 a5 a6 a7 a8 a9 a10 a11 a12 a13 a14 a15 a16 a17 a18 a19 a20 a21 a22 a23 a24 a25 a26 a27 a28 a29 a30 a31 a n c (st:Nat) w
theorem rbC_cells1{t:RB} (h:t.2.1.oneCell'=true):Cells1 (rbC t):=by
 intro v hv
 rcases mem_append.1 hv with h1 | h1
 ·exact Cells1.u8s t.1 v h1
 ·simp only[mem_cons,not_mem_nil,or_false] at h1
  rcases h1 with rfl | rfl
  ·exact h
  ·rfl
section
variable{br:Nat}{s:AS}{D R Lv:OL}{w0:World}{d y:U8}{v:Value}{a:Option Addr}{c n:Nat}{T:List RB}
theorem ROpen.later (o:ROpen br s D R w0 a c Lv T) (k cap last gets puts:Nat){w:World} (hs:Step (R.map (·.1)) ((br,blk 54 (rsC k cap last (.slice a s.X.length c) gets puts))::Lv) w0 w) :
  ROpen br ⟨k,cap,last,gets,puts,s.X⟩ D ((br,blk 54 (rsC k cap last (.slice a s.X.length c) gets puts))::Lv) w a c Lv T:=by
 refine⟨rfl,o.own,o.view,hs.hd,?_,fun p hp=>hs.old (o.dat p hp) (o.out p hp),o.len,?_⟩
 ·intro p hp
  have:=o.out p hp
  rw[o.eqR] at this
  exact this
 ·have hown:=o.own
  obtain⟨hl,⟨h4,h5,h6⟩ | ⟨b,cap,more,h4,h5,h6⟩⟩:=hown
  ·exact .inl (eq_nil_of_length_eq_zero h5)
  ·have ob:=Value.slice.inj h4
   obtain⟨rfl,-,rfl⟩:=ob
   refine .inr ⟨b,rfl,?_⟩
   have:w.heap[b]?=some (blk 80 (rowsT T++more)):=hs.has (b,blk 80 (rowsT T++more)) (by simp[h5])
   exact(At.of_blk this).left
theorem ROpen.nilOr (o:ROpen br s D R w0 a c Lv T):(a=none∧s.X=[]∧c=0∧Lv=[]∧T=[])∨∃b more,a=some ⟨b,0,none⟩∧Lv=[(b,blk 80 (rowsT T++more))]∧(rowsT T++more).length=c*34∧s.X.length≤c:=by
 have hown:=o.own
 have hv:=o.view.length
 obtain⟨hl,⟨h4,h5,h6⟩ | ⟨b,cap,more,h4,h5,h6⟩⟩:=hown
 ·have ob:=Value.slice.inj h4
  obtain⟨rfl,-,rfl⟩:=ob
  refine .inl ⟨rfl,eq_nil_of_length_eq_zero h5,rfl,h6,eq_nil_of_length_eq_zero (by omega)⟩
 ·have ob:=Value.slice.inj h4
  obtain⟨rfl,-,rfl⟩:=ob
  refine .inr ⟨b,more,rfl,h5,h6,?_⟩
  rw[length_append,hl] at h6
  omega
theorem run_cut{f:Slots}{w:World}{dd:Option Tmp}{ty:TypeId}{pos:String}{af:Array Edge}{x:Operand}{xl xh:Option Operand}{lo hi:Nat} (o:ROpen br s D R w0 a c Lv T) (hx:ev f x=.slice a s.X.length c)
  (hl:LoOk (xl.map (ev f)) lo) (hh:HiOk (xh.map (ev f)) hi s.X.length) (h1:lo≤hi) (h2:hi≤s.X.length) :
  (execOp (ev f) ⟨dd,.slice 52 x xl xh none,ty,pos,af,none⟩).run Tryz.prog w=.ok (.value (cutV a lo hi c)) w:=by
 rcases o.nilOr with⟨rfl,h3,rfl,h4,h5⟩ | ⟨b,more,rfl,h3,h4,h5⟩
 ·rw[h3] at hx hh h2
  simp only[length_nil,Nat.le_zero] at h2
  subst h2
  obtain rfl:lo=0:=by omega
  exact run_sliceNil u52 ty80 hx hl hh
 ·exact run_sliceSl u52 ty80 hx hl hh (m:=c) rfl (by simp) h1 (by omega) (Nat.le_refl _)
theorem cut_sl{w:World}{lo hi:Nat} (o:ROpen br s D R w a c Lv T) (h1:lo≤hi) (h2:hi≤s.X.length):Sl w 34 (cutV a lo hi c) (hi - lo) (rowsT ((T.take hi).drop lo)):=by
 have hv:=o.view.length
 have hlen:∀t∈(T.take hi).drop lo,t.1.length=32:=fun t ht=>o.len t (mem_of_mem_take (mem_of_mem_drop ht))
 have hcl:(rowsT ((T.take hi).drop lo)).length=(hi - lo)*34:=by rw[rowsT_len hlen,length_drop,length_take,Nat.min_eq_left (by omega)]
 rcases o.nilOr with⟨rfl,h3,rfl,h4,h5⟩ | ⟨b,more,rfl,h3,h4,h5⟩
 ·rw[h3] at h2
  simp only[length_nil,Nat.le_zero] at h2
  subst h2
  obtain rfl:lo=0:=by omega
  subst h5
  exact Sl.nil _ _ _
 ·rcases o.rows with h6 | ⟨b',h6,hat⟩
  ·rw[h6] at h2
   simp only[length_nil,Nat.le_zero] at h2
   subst h2
   obtain rfl:lo=0:=by omega
   refine⟨hcl,.inr ⟨b,_,_,rfl,?_⟩⟩
   simp only[take_zero,drop_zero]
   exact At.nil
  ·obtain rfl:b=b':=by injection h6 with h6;injection h6
   have e:rowsT T=rowsT (T.take lo)++(rowsT ((T.take hi).drop lo)++rowsT (T.drop hi)):=by
    rw[←rowsT_append,←rowsT_append]
    congr 1
    have h7:T.take lo=(T.take hi).take lo:=by rw[take_take,Nat.min_eq_left h1]
    rw[h7,←append_assoc,take_append_drop,take_append_drop]
   have htl:(rowsT (T.take lo)).length=lo*34:=by rw[rowsT_len (fun t ht=>o.len t (mem_of_mem_take ht)),length_take,Nat.min_eq_left (by omega)]
   rw[e] at hat
   have h8:=hat.right.left
   rw[htl] at h8
   show Sl w 34 (cutSl 34 b 0 lo hi c) (hi - lo) _
   by_cases hc:c=lo
   ·have h9:hi=lo:=by omega
    subst h9
    refine⟨hcl,.inr ⟨b,_,_,rfl,?_⟩⟩
    have:rowsT ((T.take hi).drop hi)=[]:=eq_nil_of_length_eq_zero (by rw[hcl];simp)
    rw[this]
    exact At.nil
   ·refine⟨hcl,.inr ⟨b,_,_,rfl,?_⟩⟩
    rw[if_neg hc]
    exact h8
theorem rowsT_cells1{T:List RB} (h:∀t∈T,t.2.1.oneCell'=true):Cells1 (rowsT T):=by
 intro v hv
 simp only[rowsT,mem_flatten,mem_map] at hv
 obtain⟨l,⟨t,ht,rfl⟩,hv⟩:=hv
 exact rbC_cells1 (h t ht) v hv
theorem RView.one{D:OL}{T:List RB}{X:List Blb} (h:RView D T X):∀t∈T,t.2.1.oneCell'=true:=by
 induction h with
 | nil=>intro t ht;cases ht
 | cons h _ ih=>
  intro t ht
  rcases mem_cons.1 ht with rfl | ht
  ·have ob:=h.2.2.form
   obtain⟨a,c,he⟩:=ob
   rw[he];rfl
  ·exact ih t ht
theorem rows_set{T:List RB} (hl:∀t∈T,t.1.length=32){i:Nat} (hi:i<T.length){t:RB} (ht:t.1.length=32) (more:List Value):splice (rowsT T++more) (0+i*34) (rbC t)=rowsT (T.set i t)++more:=by
 have e:T=T.take i++T[i]::T.drop (i+1):=by rw[←drop_eq_getElem_cons hi,take_append_drop]
 have e2:T.set i t=T.take i++t::T.drop (i+1):=set_eq_take_append_cons_drop .. |>.trans (by rw[if_pos hi])
 have htl:(rowsT (T.take i)).length=i*34:=by rw[rowsT_len (fun t ht=>hl t (mem_of_mem_take ht)),length_take,Nat.min_eq_left (by omega)]
 have hc:∀(x:RB) (A B:List RB),rowsT (A++x::B)=rowsT A++rbC x++rowsT B:=by intro x A B;simp[rowsT]
 rw[e2,hc]
 have:rowsT T=rowsT (T.take i)++rbC T[i]++rowsT (T.drop (i+1)):=by rw[←hc,←e]
 rw[this,append_assoc _ (rowsT (T.drop (i+1))) more,append_assoc _ (rowsT (T.drop (i+1))) more]
 exact splice_mid (by rw[htl];omega) (by rw[rbC_len ht,rbC_len (hl _ (getElem_mem hi))])
end
section
variable{br:Nat}{s:AS}{D R:OL}{w0:World}{d y:U8}{v:Value}{n:Nat}
set_option maxHeartbeats 4000000 in
theorem rlay_abs (hR:RRep br s D R) (ok:s.Ok) (hfew:s.Few n) (hn:n<1099511627776) (hw:Lives (R++D) w0) (hd:d.length=32) (hy:Sl w0 1 v y.length (u8s y)) (hO:OutE v y (R.map (·.1))) (hsy:y.length<1099511627776) :
  CP 114 #[pt br,.agg (u8s d).toArray,v] w0 fun e w'=>∃R' D',e=.returned (.tuple #[])∧RRep br { s with last:=s.last+1,X:=insX ⟨d,y,s.last+1⟩ s.X } (D'++D) R'∧Step (R.map (·.1)) (R'++D') w0 w':=by
 have ob:=hR.open ok hw
 obtain⟨a,c,Lv,T,o⟩:=ob
 have hla:=hfew.last
 have hdl:(u8s d).length=32:=by rw[u8s,length_map,hd]
 have hXl:=used_len s.X
 have huse:=ok.used
 have hs:Step (R.map (·.1)) ((br,blk 54 (rsC s.k s.cap s.last (.slice a s.X.length c) s.gets s.puts))::Lv) w0 w0:=by have h:=hw.left;rw[←o.eqR];exact h
 have ob:∃S,R.map (·.1)=S:=⟨_,rfl⟩
 obtain⟨S,hSe⟩:=ob
 have hlat:∀{w:World},Step S ((br,blk 54 (rsC s.k s.cap (s.last+1) (.slice a s.X.length c) s.gets s.puts))::Lv) w0 w→ROpen br ⟨s.k,s.cap,s.last+1,s.gets,s.puts,s.X⟩ D ((br,blk 54 (rsC s.k s.cap (s.last+1) (.slice a s.X.length c) s.gets s.puts))::Lv) w a c Lv T:=fun h=>o.later s.k s.cap (s.last+1) s.gets s.puts (by rw[hSe];exact h)
 have ok1:(⟨s.k,s.cap,s.last+1,s.gets,s.puts,s.X⟩:AS).Ok:=⟨ok.k1,ok.k2,ok.cap,ok.sorted,ok.len,ok.used⟩
 have hpl:=fun {w a c Lv T R} (h:ROpen br ⟨s.k,s.cap,s.last+1,s.gets,s.puts,s.X⟩ D R w a c Lv T)=>place_spec (d:=d) h ok1 hd
 simp only[hSe] at hs hO⊢
 have ob:∃b,b=Blb.mk d y (s.last+1):=⟨_,rfl⟩
 obtain⟨b,hbe⟩:=ob
 have hbd:b.d=d:=by rw[hbe]
 have hple:=posX_le d s.X
 have hTl:=o.view.length
 rw[←hbe]
 refine calls (n:=63) Tryz.func114 rfl rfl rfl ?_
 refine sr<|WL.box (cs:=u8s d) rfl rfl rfl hs (fun b4 w hs=>?_)
 refine wZ<|sr<|wm<|wn rfl<|wF 2 u54 rfl ty3 rfl<|wl ty3 rfl (hs.c1 (v:=.int .i64 (s.last:Nat)) rfl)<|wP ((s.last+1:Nat):Int)<|wn rfl<|wF 2 u54 rfl ty3 rfl<|WL.store1_1 ty3 rfl rfl (rfl) hs (by first | (simp;done) | omega | (simp only[length_append,length_replicate,length_cons,length_nil,length_set];omega) | (simp[Ent.cells,u8s];done) | exact Nat.le_of_ble_eq_true rfl) (fun w hs=>?_)
 refine wZ ?_
 replace hs:Step S ((b4,blk 44 (u8s d))::(br,blk 54 (rsC s.k s.cap (s.last+1) (.slice a s.X.length c) s.gets s.puts))::Lv) w0 w:=hs
 unfold AS.has at hpl
 simp only at hpl
 refine CW.sM (fun f w=>∃(xa:Option Addr) (xc b6:Nat) (Lx:OL),OwnSl 5 1 (.slice xa y.length xc) y.length (u8s y) Lx∧Step S ((b4,blk 44 (u8s d))::(b6,blk 80 (rbC (d,.slice xa y.length xc,s.last+1)))::((br,blk 54 (rsC s.k s.cap (s.last+1) (.slice a s.X.length c) s.gets s.puts))::Lv++Lx)) w0 w∧Holds f [(0,pt br),(4,pt b4),(6,pt b6)]) ?_ ?_
 ·skip
  refine CW.any (A:=fun w=>Step S ((b4,blk 44 (u8s d))::(br,blk 54 (rsC s.k s.cap (s.last+1) (.slice a s.X.length c) s.gets s.puts))::Lv) w0 w) (C:=fun w=>Step S ((b4,blk 44 (u8s d))::(br,blk 54 (rsC s.k s.cap (s.last+1) (.slice a s.X.length c) s.gets s.puts))::Lv) w0 w) 1000000 11 mixedP rfl ?_
  replace hs:=hs.drew
  refine aV 0 rfl (fun w hs=>run_loadN ty44 rfl hdl hs.a0)<|aM 2 rfl<|aM 4 rfl<|aN 5 rfl rfl<|aF 6 rfl 2 u54 rfl ty3 rfl<|aL 7 rfl ty3 rfl (fun w hs=>hs.c1 (v:=.int .i64 (s.last+1:Nat)) rfl)<|AL.two 1 9 (by kernel_rfl) rfl rfl (by exact hs) (by exact hs) ?_ ?_
  ·refine WL.buildSlice (cs:=[]) u76 ty5 rfl (by decide) rfl (by rfl) rfl hs (fun b18 w hs=>?_)
   refine wZ<|⟨rfl,?_⟩
   refine AL.two 3 9 (by kernel_rfl) rfl rfl (by exact hs.tail) (by exact hs.tail) ?_ ?_
   ·refine WL.append u76 u76 ty5 rfl (by decide) rfl rfl (OwnSl.mk (b:=b18) (xs:=[]) (k:=0) rfl) ((by exact hs)) (hy.stepE hs hO) (Cells1.u8s _) (by omega) rfl (fun v20 Lv20 w hv20 hs=>?_)
    obtain⟨xa,xc,rfl⟩:=hv20.form
    refine wZ<|⟨rfl,?_⟩
    refine aV 8 rfl (fun w hs=>run_build rfl ((bld_rb hd xa _ xc (s.last+1) _)))<|AL.one 9 (by kernel_rfl) rfl (by exact hs.dropL (L1:=Lv20)) (by exact hs.dropL (L1:=Lv20)) ?_
    refine WL.alloc ty80 rfl hs (fun b6 w hs=>?_)
    refine wZ<|⟨rfl,?_⟩
    refine AL.one 10 (by kernel_rfl) rfl (by exact(hs.tail).dropL (L1:=Lv20)) (by exact(hs.tail).dropL (L1:=Lv20)) ?_
    refine WL.storeAll ty80 rfl rfl ((rbC_len hd)) (rbC_cells1 rfl) hs (by rfl) (fun w hs=>?_)
    refine wZ<|⟨rfl,?_⟩
    refine AL.end (by kernel_rfl) (by exact(hs.tail).dropL (L1:=Lv20)) (by exact(hs.tail).dropL (L1:=Lv20)) ?_
    have e0:0+y.length=y.length:=Nat.zero_add _
    have hv:OwnSl 5 1 (.slice xa y.length xc) y.length (u8s y) Lv20:=by have h:=hv20;rw[e0,nil_append] at h;exact h
    replace hs:=(hs.perm (List.Perm.cons _ (perm_append_comm (l₁:=Lv20) (l₂:=_::_::Lv)))).swap
    rw[e0] at hs
    exact⟨rfl,xa,xc,b6,Lv20,hv,hs,rfl,rfl,rfl,trivial⟩
   ·refine WL.alloc ty80 rfl hs (fun b6 w hs=>?_)
    refine wZ<|⟨rfl,?_⟩
    refine AL.one 3 (by kernel_rfl) rfl (by exact hs.tail.tail) (by exact hs.tail.tail) ?_
    refine WL.append u76 u76 ty5 rfl (by decide) rfl rfl (OwnSl.mk (b:=b18) (xs:=[]) (k:=0) rfl) (hs.swap) (hy.stepE hs hO) (Cells1.u8s _) (by omega) rfl (fun v20 Lv20 w hv20 hs=>?_)
    obtain⟨xa,xc,rfl⟩:=hv20.form
    replace hs:=hs.front Lv20
    refine wZ<|⟨rfl,?_⟩
    refine aV 8 rfl (fun w hs=>run_build rfl ((bld_rb hd xa _ xc (s.last+1) _)))<|AL.one 10 (by kernel_rfl) rfl (by exact(hs.tail).dropL (L1:=Lv20)) (by exact(hs.tail).dropL (L1:=Lv20)) ?_
    refine WL.storeAll ty80 rfl rfl ((rbC_len hd)) (rbC_cells1 rfl) hs (by rfl) (fun w hs=>?_)
    refine wZ<|⟨rfl,?_⟩
    refine AL.end (by kernel_rfl) (by exact(hs.tail).dropL (L1:=Lv20)) (by exact(hs.tail).dropL (L1:=Lv20)) ?_
    have e0:0+y.length=y.length:=Nat.zero_add _
    have hv:OwnSl 5 1 (.slice xa y.length xc) y.length (u8s y) Lv20:=by have h:=hv20;rw[e0,nil_append] at h;exact h
    replace hs:=(hs.perm (List.Perm.cons _ (perm_append_comm (l₁:=Lv20) (l₂:=_::_::Lv)))).swap
    rw[e0] at hs
    exact⟨rfl,xa,xc,b6,Lv20,hv,hs,rfl,rfl,rfl,trivial⟩
  ·refine WL.alloc ty80 rfl hs (fun b6 w hs=>?_)
   refine wZ<|⟨rfl,?_⟩
   refine AL.one 1 (by kernel_rfl) rfl (by exact hs.tail) (by exact hs.tail) ?_
   refine WL.buildSlice (cs:=[]) u76 ty5 rfl (by decide) rfl (by rfl) rfl hs (fun b18 w hs=>?_)
   refine wZ<|⟨rfl,?_⟩
   refine AL.one 3 (by kernel_rfl) rfl (by exact hs.tail.tail) (by exact hs.tail.tail) ?_
   refine WL.append u76 u76 ty5 rfl (by decide) rfl rfl (OwnSl.mk (b:=b18) (xs:=[]) (k:=0) rfl) (hs) (hy.stepE hs hO) (Cells1.u8s _) (by omega) rfl (fun v20 Lv20 w hv20 hs=>?_)
   obtain⟨xa,xc,rfl⟩:=hv20.form
   replace hs:=hs.front Lv20
   refine wZ<|⟨rfl,?_⟩
   refine aV 8 rfl (fun w hs=>run_build rfl ((bld_rb hd xa _ xc (s.last+1) _)))<|AL.one 10 (by kernel_rfl) rfl (by exact(hs.tail).dropL (L1:=Lv20)) (by exact(hs.tail).dropL (L1:=Lv20)) ?_
   refine WL.storeAll ty80 rfl rfl ((rbC_len hd)) (rbC_cells1 rfl) hs (by rfl) (fun w hs=>?_)
   refine wZ<|⟨rfl,?_⟩
   refine AL.end (by kernel_rfl) (by exact(hs.tail).dropL (L1:=Lv20)) (by exact(hs.tail).dropL (L1:=Lv20)) ?_
   have e0:0+y.length=y.length:=Nat.zero_add _
   have hv:OwnSl 5 1 (.slice xa y.length xc) y.length (u8s y) Lv20:=by have h:=hv20;rw[e0,nil_append] at h;exact h
   replace hs:=(hs.perm (List.Perm.cons _ (perm_append_comm (l₁:=Lv20) (l₂:=_::_::Lv)))).swap
   rw[e0] at hs
   exact⟨rfl,xa,xc,b6,Lv20,hv,hs,rfl,rfl,rfl,trivial⟩
 clear hs
 rintro f w ⟨xa,xc,b6,Lv20,hv,hs,hf⟩
 have ob:=hf.chain
 obtain⟨g,rfl⟩:=ob
 have hrb:∀{X:OL},(∀p∈Lv20,p∈X)→RbB X (d,.slice xa y.length xc,s.last+1) b:=fun {X} h=>⟨hbd.symm,by rw[hbe],Lv20,by rw[hbe];exact hv,h⟩
 cases hfx:findX d s.X with
 | some b0=>
  rw[hfx] at hpl
  have ob:=pos_some ok.sorted hfx
  obtain⟨hb0,hb0d⟩:=ob
  have hlt:=(List.getElem?_eq_some_iff.1 hb0).1
  have hnil:=o.nilOr
  obtain⟨h1,h2,h3⟩ | ⟨bv,more,hae,hLe,hcl,hnc⟩:=hnil
  ·rw[h2] at hlt;simp at hlt
  refine sr<|wm<|wR ty44 rfl hdl hs.a0<|wE rfl (run_call en115 rfl rfl) (hpl (hlat (Step.dropR (L1:=_::Lv) (Step.tail (Step.tail hs))))) ?_
  rintro e w ⟨rfl,hq⟩
  refine⟨_,rfl,?_⟩
  replace hs:=hs.callE hq
  refine wm<|wx rfl rfl<|wx rfl rfl<|wA<|wA<|wZ ?_
  subst hae
  subst hLe
  refine cq<|sr<|wm<|wZ<|CW.cond rfl (fun h=>?_) (fun h=>?_)
  ·refine cq<|CW.quietT (l1:=[_,_,_,_,_,_,_]) (l2:=[_]) 7 rfl mixedP rfl (by kernel_rfl) hs ?_
   refine qm<|qn rfl<|qF 3 u54 rfl ty52 rfl<|qL ty52 rfl (fun w hs=>(Step.tail (Step.tail hs)).c0 (v:=.slice (some ⟨bv,0,none⟩) s.X.length c) rfl)<|qm<|qV (fun w hs=>run_loadN ty80 rfl (rbC_len hd) hs.a1)<|qI u52 ty80 rfl rfl<|QL.nil (fun w hs=>?_)
   refine WL.storeN ty80 rfl rfl ((rbC_len hd)) (rbC_cells1 rfl) (hs.front [_,_,_]) (by first | (simp;done) | omega | (simp only[length_append,length_replicate,length_cons,length_nil,length_set];omega) | (simp[Ent.cells,u8s];done) | exact Nat.le_of_ble_eq_true rfl) (fun w hs=>?_)
   refine wZ ?_
   replace hs:=Step.blkEq (rows_set o.len (by omega) hd more) hs
   refine CW.ret ?_
   refine fin_ret0 rfl ?_
   have e:=ins_there (b:=b) ok.sorted (by rw[hbd,hfx];rfl)
   rw[hbd] at e
   refine⟨_,Lv20,rfl,⟨.slice (some ⟨bv,0,none⟩) s.X.length c,_,T.set (posX d s.X) (d,.slice xa y.length xc,s.last+1),rfl,?_,?_⟩,Step.append_comm (L1:=Lv20) (L2:=[_,_]) (Step.tail (Step.tail (Step.append_comm (L1:=[_,_]) (L2:=_::_::Lv20) (hs.front [_,_,_]))))⟩
   ·simp only[e,length_set]
    have hT':∀t∈T.set (posX d s.X) (d,Value.slice xa y.length xc,s.last+1),t.1.length=32:=fun t ht=>by
     rcases mem_or_eq_of_mem_set ht with h | rfl
     ·exact o.len t h
     ·exact hd
    refine⟨by rw[rowsT_len hT',length_set,hTl],.inr ⟨bv,c,more,rfl,rfl,?_⟩⟩
    rw[length_append,rowsT_len hT',length_set,←rowsT_len o.len,←length_append];exact hcl
   ·simp only[e]
    exact(o.view.mono fun p hp=>mem_append_right _ hp).set (hrb fun p hp=>mem_append_left _ hp) _
  ·cases h
 | none=>
  rw[hfx] at hpl
  have e:=ins_new (b:=b) ok.sorted (by rw[hbd];exact hfx)
  rw[hbd] at e
  refine sr<|wm<|wR ty44 rfl hdl hs.a0<|wE rfl (run_call en115 rfl rfl) (hpl (hlat (Step.dropR (L1:=_::Lv) (Step.tail (Step.tail hs))))) ?_
  rintro e w ⟨rfl,hq⟩
  refine⟨_,rfl,?_⟩
  replace hs:=hs.callE hq
  refine wm<|wx rfl rfl<|wx rfl rfl<|wA<|wA<|wZ<|cq<|sr<|wm<|wZ<|CW.cond rfl (fun h=>?_) (fun h=>?_)
  ·cases h
  refine ck<|sr<|wA<|wZ ?_
  have hca:Cells1 (rowsT ((T.take (posX d s.X)).drop 0)):=rowsT_cells1 fun t ht=>o.view.one t (mem_of_mem_take (mem_of_mem_drop ht))
  have hcb:Cells1 (rowsT ((T.take s.X.length).drop (posX d s.X))):=rowsT_cells1 fun t ht=>o.view.one t (mem_of_mem_take (mem_of_mem_drop ht))
  refine sr<|wm<|wm<|wn rfl<|wF 3 u54 rfl ty52 rfl<|wl ty52 rfl ((Step.tail (Step.tail hs)).c0 (v:=.slice a s.X.length c) rfl)<|wm<|wV (run_cut (lo:=0) (hi:=posX d s.X) (hlat (Step.dropR (L1:=_::Lv) (Step.tail (Step.tail hs)))) rfl rfl rfl (Nat.zero_le _) hple)<|WL.append u52 u52 ty80 rfl (by decide) rfl rfl (OwnSl.nil _ _) (hs) (cut_sl (hlat (Step.dropR (L1:=_::Lv) (Step.tail (Step.tail hs)))) (Nat.zero_le _) hple) (hca) (by omega) rfl (fun v47 Lv47 w hv47 hs=>?_)
  refine wA<|wZ ?_
  have ob:=hv47.form
  obtain⟨va,vc,rfl⟩:=ob
  have hx:(rbC (d,Value.slice xa y.length xc,s.last+1)).length=34:=rbC_len hd
  refine sr<|wm<|wR ty80 rfl hx (Step.dropL (L1:=Lv47) hs).a1<|WL.buildSlice (cs:=rbC (d,Value.slice xa y.length xc,s.last+1)) u52 ty80 rfl (by decide) rfl (filled1 hx rfl) rfl hs (fun b50 w hs=>?_)
  have hsl:Sl w 34 (.slice (some ⟨b50,0,none⟩) 1 1) 1 (rbC (d,Value.slice xa y.length xc,s.last+1)):=.own1 hs (by rw[hx])
  refine WL.append u52 u52 ty80 rfl (by decide) rfl rfl (hv47) (hs.perm perm_middle.symm) (hsl) (rbC_cells1 rfl) (by omega) rfl (fun v51 Lv51 w hv51 hs=>?_)
  refine wA<|wZ ?_
  have ob:=hv51.form
  obtain⟨ua,uc,rfl⟩:=ob
  have ho3:ROpen br ⟨s.k,s.cap,s.last+1,s.gets,s.puts,s.X⟩ D _ w a c Lv T:=hlat (Step.dropR (L1:=_::Lv) (Step.tail (Step.tail (Step.tail (Step.dropL (L1:=Lv51) hs)))))
  refine cr<|wm<|wm<|wm<|wn rfl<|wF 3 u54 rfl ty52 rfl<|wl ty52 rfl ((Step.tail (Step.tail (Step.tail (Step.dropL (L1:=Lv51) hs)))).c0 (v:=.slice a s.X.length c) rfl)<|wm<|wV (run_cut (lo:=posX d s.X) (hi:=s.X.length) ho3 rfl rfl rfl hple (Nat.le_refl _))<|WL.append u52 u52 ty80 rfl (by decide) rfl rfl (hv51) (hs) (cut_sl ho3 hple (Nat.le_refl _)) (hcb) (by omega) rfl (fun v60 Lv60 w hv60 hs=>?_)
  replace hs:=Step.front [_,_,_] (Step.append_comm (L1:=Lv60) hs)
  refine wn rfl<|wF 3 u54 rfl ty52 rfl<|ws1 ty52 rfl rfl (hv60.one) (hs) (fun w hs=>?_)
  refine wZ<|fin_end0 rfl ?_
  have hcnt:0+(posX d s.X - 0)+1+(s.X.length - posX d s.X)=(insX b s.X).length:=by
   rw[e,length_append,length_cons,length_take,length_drop,Nat.min_eq_left hple];omega
  have hrows:[]++rowsT ((T.take (posX d s.X)).drop 0)++rbC (d,Value.slice xa y.length xc,s.last+1)++rowsT ((T.take s.X.length).drop (posX d s.X))=rowsT (T.take (posX d s.X)++(d,Value.slice xa y.length xc,s.last+1)::T.drop (posX d s.X)):=by
   rw[drop_zero,←hTl,take_length,nil_append];simp[rowsT]
  rw[hcnt,hrows] at hv60
  have hs2:Step S ((br,blk 54 (rsC s.k s.cap (s.last+1) v60 s.gets s.puts))::_::_::_::((Lv++Lv20)++Lv60)) w0 w:=hs
  have hs3:=Step.tail (Step.tail (Step.tail (Step.append_comm (L1:=[_]) (L2:=_::_::_::((Lv++Lv20)++Lv60)) hs2)))
  have hs4:=Step.dropL (L1:=Lv) (Step.perm hs3 (List.Perm.of_eq ((append_assoc (Lv++Lv20) Lv60 [_]).trans (append_assoc Lv Lv20 (Lv60++[_])))))
  have hs5:=Step.perm (Step.append_comm (L1:=Lv20) hs4) ((perm_append_comm (l₁:=Lv60) (l₂:=[_])).append_right Lv20)
  refine⟨_,Lv20,rfl,⟨v60,Lv60,T.take (posX d s.X)++(d,Value.slice xa y.length xc,s.last+1)::T.drop (posX d s.X),rfl,hv60,?_⟩,hs5⟩
  simp only[e]
  have hvm:=o.view.mono (D':=Lv20++D) fun p hp=>mem_append_right _ hp
  exact(hvm.take _).append (.cons (hrb fun p hp=>mem_append_left _ hp) (hvm.drop _))
end
section
variable{br:Nat}{s:AS}{D R:OL}{w0:World}{d y:U8}{v:Value}{n:Nat}
theorem room_ins (h:SortedX s.X):usedX (delX d s.X)+(y.length+32)=usedX (insX ⟨d,y,s.last+1⟩ s.X):=by
 rw[usedX_perm (insX_perm ⟨d,y,s.last+1⟩ h),usedX_cons]
 simp only
 omega
theorem rplant_abs (hR:RRep br s D R) (ok:s.Ok) (hfew:s.Few n) (hn:n<1099511627776) (hw:Lives (R++D) w0) (hd:d.length=32) (hy:Sl w0 1 v y.length (u8s y)) (hO:OutE v y (R.map (·.1))) (hsy:y.length<1099511627776) :
  CP 62 #[pt br,.agg (u8s d).toArray,v] w0 fun e w'=>∃R' D',e=.returned (.int .i64 ((s.plant d y).1:Nat))∧RRep br (s.plant d y).2 (D'++D) R'∧Step (R.map (·.1)) (R'++D') w0 w':=by
 have ob:=hR.open ok hw
 obtain⟨a,c,Lv,T,o⟩:=ob
 have hs:Step (R.map (·.1)) ((br,blk 54 (rsC s.k s.cap s.last (.slice a s.X.length c) s.gets s.puts))::Lv) w0 w0:=by have h:=hw.left;rw[←o.eqR];exact h
 have hdl:(u8s d).length=32:=by rw[u8s,length_map,hd]
 have hP:=RRep.head o s.k s.cap s.last s.gets s.puts
 have hfit:=fun w=>refFits_spec (d:=d) (k:=(s.k:Nat)) hd w
 have ob:=Sl.form hy
 obtain⟨av,cv,rfl⟩:=ob
 have hroom:=fun {w a c Lv T R} (h:ROpen br s D R w a c Lv T)=>room_spec (d:=d) (n:=y.length) h ok hd hsy
 simp only[room_ins (y:=y) ok.sorted] at hroom
 have hlat:∀{w:World},Step (R.map (·.1)) ((br,blk 54 (rsC s.k s.cap s.last (.slice a s.X.length c) s.gets s.puts))::Lv) w0 w→ROpen br s D ((br,blk 54 (rsC s.k s.cap s.last (.slice a s.X.length c) s.gets s.puts))::Lv) w a c Lv T:=fun h=>o.later s.k s.cap s.last s.gets s.puts h
 have hlay:=fun {w} (h:Lives (((br,blk 54 (rsC s.k s.cap s.last (.slice a s.X.length c) s.gets s.puts))::Lv)++D) w) (h2:Sl w 1 (.slice av y.length cv) y.length (u8s y))=>rlay_abs (d:=d) hP ok hfew hn h hd h2 (by have h3:=hO;rw[o.eqR] at h3;exact h3) hsy
 have hkept:∀{w:World},Step (R.map (·.1)) ((br,blk 54 (rsC s.k s.cap s.last (.slice a s.X.length c) s.gets s.puts))::Lv) w0 w→Lives (((br,blk 54 (rsC s.k s.cap s.last (.slice a s.X.length c) s.gets s.puts))::Lv)++D) w:=fun h=>Lives.kept hw h
 unfold AS.plant
 by_cases hf:fitsL d s.k=false
 ·rw[if_pos hf]
  simp only[hf] at hfit
  refine calls (n:=27) Tryz.func62 rfl rfl rfl ?_
  refine sr<|WL.box (cs:=u8s d) rfl rfl rfl hs (fun b4 w hs=>?_)
  refine wA<|wZ<|cq<|cq<|CW.quiet mixedP (by kernel_rfl) hs ?_
  refine qV (fun w hs=>run_loadN ty44 rfl hdl hs.a0)<|qm<|qn rfl<|qF 0 u54 rfl ty3 rfl<|qL ty3 rfl (fun w hs=>hs.c1 (v:=.int .i64 (s.k:Nat)) rfl)<|QL.enter rfl (fun w=>run_call en112 rfl rfl) (fun w hs=>hfit _) ?_
  refine qV (fun w hs=>run_not rfl)<|QL.nil (fun w hs=>?_)
  refine CW.cond rfl (fun h=>?_) (fun h=>?_)
  ·refine sr<|wA<|wZ<|CW.ret ?_
   refine fin_ret1 rfl ?_
   exact⟨_,[],rfl,hP,by rw[append_nil];exact hs.tail⟩
  ·cases h
 ·rw[if_neg hf]
  replace hf:fitsL d s.k=true:=by simpa using hf
  simp only[hf] at hfit
  by_cases hlong:1048576<y.length
  ·rw[if_pos hlong]
   refine calls (n:=27) Tryz.func62 rfl rfl rfl ?_
   refine sr<|WL.box (cs:=u8s d) rfl rfl rfl hs (fun b4 w hs=>?_)
   refine wA<|wZ<|cq<|cq<|CW.quiet mixedP (by kernel_rfl) hs ?_
   refine qV (fun w hs=>run_loadN ty44 rfl hdl hs.a0)<|qm<|qn rfl<|qF 0 u54 rfl ty3 rfl<|qL ty3 rfl (fun w hs=>hs.c1 (v:=.int .i64 (s.k:Nat)) rfl)<|QL.enter rfl (fun w=>run_call en112 rfl rfl) (fun w hs=>hfit _) ?_
   refine qV (fun w hs=>run_not rfl)<|QL.nil (fun w hs=>?_)
   refine CW.cond rfl (fun h=>?_) (fun h=>?_)
   ·cases h
   refine ck<|cq<|sr<|wm<|wL u76 rfl<|xT<|wZ<|CW.cond rfl (fun h=>?_) (fun h=>?_)
   ·refine sr<|wA<|wZ<|CW.ret ?_
    refine fin_ret1 rfl ?_
    exact⟨_,[],rfl,hP,by rw[append_nil];exact hs.tail⟩
   ·cases h
  ·rw[if_neg hlong]
   unfold AS.lay
   by_cases hc:usedX (insX ⟨d,y,s.last+1⟩ s.X)≤s.cap
   ·simp only[decide_eq_true hc] at hroom
    rw[if_pos hc]
    simp only
    refine calls (n:=27) Tryz.func62 rfl rfl rfl ?_
    refine sr<|WL.box (cs:=u8s d) rfl rfl rfl hs (fun b4 w hs=>?_)
    refine wA<|wZ<|cq<|cq<|CW.quiet mixedP (by kernel_rfl) hs ?_
    refine qV (fun w hs=>run_loadN ty44 rfl hdl hs.a0)<|qm<|qn rfl<|qF 0 u54 rfl ty3 rfl<|qL ty3 rfl (fun w hs=>hs.c1 (v:=.int .i64 (s.k:Nat)) rfl)<|QL.enter rfl (fun w=>run_call en112 rfl rfl) (fun w hs=>hfit _) ?_
    refine qV (fun w hs=>run_not rfl)<|QL.nil (fun w hs=>?_)
    refine CW.cond rfl (fun h=>?_) (fun h=>?_)
    ·cases h
    refine ck<|cq<|sr<|wm<|wL u76 rfl<|xF<|wZ<|CW.cond rfl (fun h=>?_) (fun h=>?_)
    ·cases h
    refine ck<|cq<|sr<|wm<|wR ty44 rfl hdl hs.a0<|wm<|wL u76 rfl<|wE rfl (run_call en113 rfl rfl) (hroom (hlat hs.tail)) ?_
    rintro e w ⟨rfl,hq⟩
    refine⟨_,rfl,?_⟩
    replace hs:=hs.callE hq
    refine wN rfl<|wZ<|CW.cond rfl (fun h=>?_) (fun h=>?_)
    ·cases h
    refine ck<|sr<|wm<|wR ty44 rfl hdl hs.a0<|wm<|wE rfl (run_call en114 rfl rfl) (hlay (hkept hs.tail) (hy.stepE hs.tail hO)) ?_
    rintro e w ⟨R',D',rfl,hP',hq⟩
    refine⟨_,rfl,?_⟩
    replace hs:=Step.call (L1:=_::Lv) (L:=[_]) (Step.append_comm (L1:=[_]) hs) hq
    refine wZ<|sr<|wA<|wZ<|CW.ret ?_
    refine fin_ret1 rfl ?_
    exact⟨R',D',rfl,hP',hs.dropR⟩
   ·simp only[decide_eq_false hc] at hroom
    rw[if_neg hc]
    simp only
    refine calls (n:=27) Tryz.func62 rfl rfl rfl ?_
    refine sr<|WL.box (cs:=u8s d) rfl rfl rfl hs (fun b4 w hs=>?_)
    refine wA<|wZ<|cq<|cq<|CW.quiet mixedP (by kernel_rfl) hs ?_
    refine qV (fun w hs=>run_loadN ty44 rfl hdl hs.a0)<|qm<|qn rfl<|qF 0 u54 rfl ty3 rfl<|qL ty3 rfl (fun w hs=>hs.c1 (v:=.int .i64 (s.k:Nat)) rfl)<|QL.enter rfl (fun w=>run_call en112 rfl rfl) (fun w hs=>hfit _) ?_
    refine qV (fun w hs=>run_not rfl)<|QL.nil (fun w hs=>?_)
    refine CW.cond rfl (fun h=>?_) (fun h=>?_)
    ·cases h
    refine ck<|cq<|sr<|wm<|wL u76 rfl<|xF<|wZ<|CW.cond rfl (fun h=>?_) (fun h=>?_)
    ·cases h
    refine ck<|cq<|sr<|wm<|wR ty44 rfl hdl hs.a0<|wm<|wL u76 rfl<|wE rfl (run_call en113 rfl rfl) (hroom (hlat hs.tail)) ?_
    rintro e w ⟨rfl,hq⟩
    refine⟨_,rfl,?_⟩
    replace hs:=hs.callE hq
    refine wN rfl<|wZ<|CW.cond rfl (fun h=>?_) (fun h=>?_)
    ·refine sr<|wA<|wZ<|CW.ret ?_
     refine fin_ret1 rfl ?_
     exact⟨_,[],rfl,hP,by rw[append_nil];exact hs.tail⟩
    ·cases h
end
section
variable{br:Nat}{s:AS}{D R:OL}{w0:World}{d y:U8}{v:Value}{n:Nat}
set_option maxHeartbeats 2000000 in
theorem rput_abs (hR:RRep br s D R) (ok:s.Ok) (hfew:s.Few n) (hn:n<1099511627775) (hw:Lives (R++D) w0) (hy:Sl w0 1 v y.length (u8s y)) (hO:OutE v y (R.map (·.1))) (hsy:y.length<1099511627776) :
  CP 74 #[pt br,v] w0 fun e w'=>∃R' D',e=.returned (.tuple #[.agg (u8s (s.put y).1).toArray,.int .i64 ((s.put y).2.1:Nat)])∧RRep br (s.put y).2.2 (D'++D) R'∧Step (R.map (·.1)) (R'++D') w0 w':=by
 have ob:=hR.open ok hw
 obtain⟨a,c,Lv,T,o⟩:=ob
 have hs:Step (R.map (·.1)) ((br,blk 54 (rsC s.k s.cap s.last (.slice a s.X.length c) s.gets s.puts))::Lv) w0 w0:=by have h:=hw.left;rw[←o.eqR];exact h
 have hpu:=hfew.puts
 have hk1:=ok.k1
 have huse:=ok.used
 have ob:∃s1,s1=AS.mk s.k s.cap s.last s.gets (s.puts+1) s.X:=⟨_,rfl⟩
 obtain⟨s1,hs1⟩:=ob
 have ok1:s1.Ok:=by rw[hs1];exact⟨ok.k1,ok.k2,ok.cap,ok.sorted,ok.len,ok.used⟩
 have few1:s1.Few (n+1):=by rw[hs1];exact⟨Nat.le_succ_of_le hfew.last,Nat.le_succ_of_le hfew.gets,Nat.succ_le_succ hfew.puts⟩
 have hP:RRep br s1 D ((br,blk 54 (rsC s.k s.cap s.last (.slice a s.X.length c) s.gets (s.puts+1)))::Lv):=by rw[hs1];exact RRep.head o s.k s.cap s.last s.gets (s.puts+1)
 have ob:∃x,frontL y s.k=x:=⟨_,rfl⟩
 obtain⟨dg,hdg⟩:=ob
 have hd:dg.length=32:=by rw[←hdg];exact frontL_len ok.k2
 have hdl:(u8s dg).length=32:=by rw[u8s,length_map,hd]
 have hof:=fun {w} (h:Sl w 1 v y.length (u8s y))=>ofR_spec (k:=s.k) w h hsy ok.k1 ok.k2
 rw[hdg] at hof
 have hlat:∀{w:World},Step (R.map (·.1)) ((br,blk 54 (rsC s.k s.cap s.last (.slice a s.X.length c) s.gets (s.puts+1)))::Lv) w0 w→ROpen br s1 D ((br,blk 54 (rsC s.k s.cap s.last (.slice a s.X.length c) s.gets (s.puts+1)))::Lv) w a c Lv T:=fun h=>by rw[hs1];exact o.later s.k s.cap s.last s.gets (s.puts+1) h
 have hroom:=fun {w a c Lv T R} (h:ROpen br s1 D R w a c Lv T)=>room_spec (d:=dg) (n:=y.length) h ok1 hd hsy
 simp only[room_ins (y:=y) ok1.sorted] at hroom
 have hpl:=fun {w a c Lv T R} (h:ROpen br s1 D R w a c Lv T)=>place_spec (d:=dg) h ok1 hd
 have hlay:=fun {w} (h:Lives (((br,blk 54 (rsC s.k s.cap s.last (.slice a s.X.length c) s.gets (s.puts+1)))::Lv)++D) w) (h2:Sl w 1 v y.length (u8s y))=>rlay_abs (d:=dg) hP ok1 few1 (by omega) h hd h2 (by have h3:=hO;rw[o.eqR] at h3;exact h3) hsy
 have hkept:∀{w:World},Step (R.map (·.1)) ((br,blk 54 (rsC s.k s.cap s.last (.slice a s.X.length c) s.gets (s.puts+1)))::Lv) w0 w→Lives (((br,blk 54 (rsC s.k s.cap s.last (.slice a s.X.length c) s.gets (s.puts+1)))::Lv)++D) w:=fun h=>Lives.kept hw h
 have ob:=Sl.form hy
 obtain⟨av,cv,rfl⟩:=ob
 have ob:∃pr,s.put y=pr:=⟨_,rfl⟩
 obtain⟨pr,hpr⟩:=ob
 rw[hpr]
 have hfin:∀{d':U8}{e':Nat}{s':AS}{R' D':OL}{w:World},(d',e',s')=pr→RRep br s' (D'++D) R'→Step (R.map (·.1)) (R'++D') w0 w→∃R' D',Ending.returned (.tuple #[.agg (u8s d').toArray,.int .i64 (e':Nat)])=.returned (.tuple #[.agg (u8s pr.1).toArray,.int .i64 (pr.2.1:Nat)])∧RRep br pr.2.2 (D'++D) R'∧Step (R.map (·.1)) (R'++D') w0 w:=by
  rintro d' e' s' R' D' w rfl h1 h2
  exact⟨R',D',rfl,h1,h2⟩
 unfold AS.put at hpr
 rw[hdg] at hpr
 simp only at hpr
 rw[←hs1] at hpr
 refine calls (n:=79) Tryz.func74 rfl rfl rfl ?_
 refine sr<|WL.alloc ty44 rfl hs (fun b4 w hs=>?_)
 refine wA<|wZ<|sr<|wm<|wn rfl<|wF 4 u54 rfl ty50 rfl<|wF 1 u50 rfl ty3 rfl<|wl ty3 rfl (hs.c1 (v:=.int .i64 (s.puts:Nat)) rfl)<|wP ((s.puts+1:Nat):Int)<|wn rfl<|wF 4 u54 rfl ty50 rfl<|wF 1 u50 rfl ty3 rfl<|WL.store1_1 ty3 rfl rfl (rfl) hs (by first | (simp;done) | omega | (simp only[length_append,length_replicate,length_cons,length_nil,length_set];omega) | (simp[Ent.cells,u8s];done) | exact Nat.le_of_ble_eq_true rfl) (fun w hs=>?_)
 refine wZ ?_
 replace hs:Step (R.map (·.1)) ((b4,blk 44 (u8s zD))::(br,blk 54 (rsC s.k s.cap s.last (.slice a s.X.length c) s.gets (s.puts+1)))::Lv) w0 w:=hs
 by_cases hlong:1048576<y.length
 ·rw[if_pos hlong] at hpr
  refine cq<|sr<|wm<|wL u76 rfl<|xT<|wZ<|CW.cond rfl (fun h=>?_) (fun h=>?_)
  ·refine sr<|wV (run_build rfl ((bld_dig _)))<|WL.storeAll ty44 rfl rfl ((by rfl)) (Cells1.u8s _) hs (by rfl) (fun w hs=>?_)
   refine wA<|wZ<|CW.ret ?_
   refine fin_cellTmp rfl rfl (run_loadVarN ty44 (by rfl) hs.a0) ?_
   exact hfin (D':=[]) hpr hP (by rw[append_nil];exact Step.tail hs)
  ·cases h
 rw[if_neg hlong] at hpr
 unfold AS.has at hpl
 have hX1:s1.X=s.X:=by rw[hs1]
 have hl1:s1.last=s.last:=by rw[hs1]
 have hc1:s1.cap=s.cap:=by rw[hs1]
 rw[hX1] at hpl
 rw[hX1,hl1,hc1] at hroom
 have hlayE:s1.lay dg y=if usedX (insX ⟨dg,y,s.last+1⟩ s.X)≤s.cap then some { s1 with last:=s1.last+1,X:=insX ⟨dg,y,s1.last+1⟩ s1.X } else none:=by
  rw[hX1,hl1,hs1];rfl
 rw[hlayE] at hpr
 refine cq<|sr<|wm<|wL u76 rfl<|xF<|wZ<|CW.cond rfl (fun h=>?_) (fun h=>?_)
 ·cases h
 refine ck<|sr<|wm<|wn rfl<|wF 0 u54 rfl ty3 rfl<|wl ty3 rfl (hs.c1 (v:=.int .i64 (s.k:Nat)) rfl)<|wm<|wE rfl (run_call en61 rfl rfl) (hof (hy.stepE hs.tail hO)) ?_
 rintro e w ⟨rfl,hq⟩
 refine⟨_,rfl,?_⟩
 replace hs:=hs.callE hq
 refine WL.alloc ty44 rfl hs (fun b6 w hs=>?_)
 refine WL.storeAll ty44 rfl rfl ((hdl)) (Cells1.u8s _) hs (by rfl) (fun w hs=>?_)
 refine wZ ?_
 cases hf:findX dg s.X with
 | none=>
  rw[hf] at hpl hpr
  simp only at hpr
  refine sr<|wm<|wR ty44 rfl hdl hs.a0<|wE rfl (run_call en115 rfl rfl) (hpl (hlat hs.tail.tail)) ?_
  rintro e w ⟨rfl,hq⟩
  refine⟨_,rfl,?_⟩
  replace hs:=hs.callE hq
  refine wm<|wx rfl rfl<|wx rfl rfl<|wA<|wA<|wZ<|cq<|sr<|wm<|wm<|wz<|wz<|wz<|wz<|wz<|wz<|wz<|wz<|wz<|wz<|pF<|wZ ?_
  refine CW.cond rfl (fun h=>?_) (fun h=>?_)
  ·cases h
  refine ck<|cq<|cq<|CW.quiet mixedP (by kernel_rfl) hs ?_
  refine qm<|qm<|qz<|qz<|qz<|qz<|qz<|qz<|qz<|qz<|qz<|qz<|qz<|qz ?_
  refine qz<|qz<|qz<|qP<|QL.nil (fun w hs=>?_)
  refine CW.cond rfl (fun h=>?_) (fun h=>?_)
  ·cases h
  by_cases hc:usedX (insX ⟨dg,y,s.last+1⟩ s.X)≤s.cap
  ·simp only[decide_eq_true hc] at hroom
   rw[if_pos hc] at hpr
   refine ck<|cq<|sr<|wm<|wR ty44 rfl hdl hs.a0<|wm<|wL u76 rfl<|wE rfl (run_call en113 rfl rfl) (hroom (hlat hs.tail.tail)) ?_
   rintro e w ⟨rfl,hq⟩
   refine⟨_,rfl,?_⟩
   replace hs:=hs.callE hq
   refine wN rfl<|wZ<|CW.cond rfl (fun h=>?_) (fun h=>?_)
   ·cases h
   refine ck<|sr<|wm<|wR ty44 rfl hdl hs.a0<|wm<|wE rfl (run_call en114 rfl rfl) (hlay (hkept hs.tail.tail) (hy.stepE hs.tail.tail hO)) ?_
   rintro e w ⟨R',D',rfl,hP',hq⟩
   refine⟨_,rfl,?_⟩
   replace hs:=Step.append_comm (L2:=[_,_]) (Step.call (L1:=_::Lv) (L:=[_,_]) (Step.append_comm (L1:=[_,_]) hs) hq)
   refine wZ<|sr<|wR ty44 rfl hdl hs.a0<|WL.storeAll ty44 rfl rfl (hdl) (Cells1.u8s _) (hs.swap) rfl (fun w hs=>?_)
   refine wA<|wZ<|CW.ret ?_
   refine fin_cellTmp rfl rfl (run_loadVarN ty44 (by assumption) hs.a0) ?_
   exact hfin hpr hP' (Step.tail (Step.tail hs))
  ·simp only[decide_eq_false hc] at hroom
   rw[if_neg hc] at hpr
   refine ck<|cq<|sr<|wm<|wR ty44 rfl hdl hs.a0<|wm<|wL u76 rfl<|wE rfl (run_call en113 rfl rfl) (hroom (hlat hs.tail.tail)) ?_
   rintro e w ⟨rfl,hq⟩
   refine⟨_,rfl,?_⟩
   replace hs:=hs.callE hq
   refine wN rfl<|wZ<|CW.cond rfl (fun h=>?_) (fun h=>?_)
   ·refine sr<|wV (run_build rfl ((bld_dig _)))<|WL.storeAll ty44 rfl rfl ((by rfl)) (Cells1.u8s _) (hs.swap) rfl (fun w hs=>?_)
    refine wA<|wZ<|CW.ret ?_
    refine fin_cellTmp rfl rfl (run_loadVarN ty44 (by rfl) hs.a0) ?_
    exact hfin (D':=[]) hpr hP (by rw[append_nil];exact Step.tail (Step.tail hs))
   ·cases h
 | some b=>
  rw[hf] at hpl hpr
  simp only at hpr
  have ob:=pos_some ok.sorted hf
  obtain⟨hb,hbd⟩:=ob
  have hlt:=(List.getElem?_eq_some_iff.1 hb).1
  have hbl:=ok.len b (mem_of_getElem? hb)
  have hbu:=used_mem (mem_of_getElem? hb)
  have ob:=o.view.at hb
  obtain⟨⟨td,tv,ts⟩,ht,h1,h2,hheld⟩:=ob
  simp only at h1 h2 hheld
  subst h1 h2
  have ob:=o.row hb
  obtain⟨bv,_,hae,_,_⟩:=ob
  subst hae
  have ob:=hheld.form
  obtain⟨va,vc,rfl⟩:=ob
  have hfl:(frontL b.x s.k).length=32:=frontL_len ok.k2
  have hcell:∀{w:World},Step (R.map (·.1)) ((br,blk 54 (rsC s.k s.cap s.last (.slice (some ⟨bv,0,none⟩) s.X.length c) s.gets (s.puts+1)))::Lv) w0 w→w.cell? ⟨bv,0+posX dg s.X*34+32,none⟩=some (.slice va b.x.length vc):=fun {w} h=>by
   have o2:=hlat h
   rcases o2.rows with h5 | ⟨bv2,h5,h6⟩
   ·rw[hX1] at h5;rw[h5] at hb;simp at hb
   ·obtain rfl:bv=bv2:=by injection h5 with he;injection he
    exact(h6.rowT o2.len ht).cell (rbC_32 hbl)
  have hsl:∀{w:World},Step (R.map (·.1)) ((br,blk 54 (rsC s.k s.cap s.last (.slice (some ⟨bv,0,none⟩) s.X.length c) s.gets (s.puts+1)))::Lv) w0 w→Sl w 1 (.slice va b.x.length vc) b.x.length (u8s b.x):=fun {w} h=>hheld.sl (hlat h).dat
  refine sr<|wm<|wR ty44 rfl hdl hs.a0<|wE rfl (run_call en115 rfl rfl) (hpl (hlat hs.tail.tail)) ?_
  rintro e w ⟨rfl,hq⟩
  refine⟨_,rfl,?_⟩
  replace hs:=hs.callE hq
  refine wm<|wx rfl rfl<|wx rfl rfl<|wA<|wA<|wZ ?_
  by_cases hxy:b.x=y
  ·rw[if_pos hxy] at hpr
   refine cq<|sr<|wm<|wm<|wy<|wm<|wy<|wn rfl<|wy<|wF 3 u54 rfl ty52 rfl<|wy<|wl ty52 rfl ((Step.tail hs.tail).c0 (v:=.slice (some ⟨bv,0,none⟩) s.X.length c) rfl)<|wy<|wm ?_
   refine wy ?_;(first | refine WL.val rfl (run_ixSlN u52 ty80 rfl rfl (by omega)) ?_ | refine WL.val rfl (run_ixSl u52 ty80 rfl rfl (by omega)) ?_)
   refine wy<|wF 32 u80 rfl ty76 rfl<|wy<|wl ty76 rfl (hcell hs.tail.tail)<|wy<|wm<|wy<|wE rfl (run_call en121 rfl rfl) (sameR_spec _ (hsl hs.tail.tail) (hy.stepE hs.tail.tail hO)) ?_
   rintro e w ⟨rfl,hq⟩
   refine⟨_,rfl,?_⟩
   replace hs:=hs.callE hq
   refine pT<|wZ<|CW.condP rfl (fun h=>?_) (fun h=>?_)
   ·refine sr<|wR ty44 rfl hdl hs.a0<|WL.storeAll ty44 rfl rfl (hdl) (Cells1.u8s _) (hs.swap) rfl (fun w hs=>?_)
    refine wA<|wZ<|CW.ret ?_
    refine fin_cellTmp rfl rfl (run_loadVarN ty44 (by assumption) hs.a0) ?_
    exact hfin (D':=[]) hpr hP (by rw[append_nil];exact Step.tail (Step.tail hs))
   ·exact absurd hxy h
  rw[if_neg hxy] at hpr
  refine cq<|sr<|wm<|wm<|wy<|wm<|wy<|wn rfl<|wy<|wF 3 u54 rfl ty52 rfl<|wy<|wl ty52 rfl ((Step.tail hs.tail).c0 (v:=.slice (some ⟨bv,0,none⟩) s.X.length c) rfl)<|wy<|wm ?_
  refine wy ?_;(first | refine WL.val rfl (run_ixSlN u52 ty80 rfl rfl (by omega)) ?_ | refine WL.val rfl (run_ixSl u52 ty80 rfl rfl (by omega)) ?_)
  refine wy<|wF 32 u80 rfl ty76 rfl<|wy<|wl ty76 rfl (hcell hs.tail.tail)<|wy<|wm<|wy<|wE rfl (run_call en121 rfl rfl) (sameR_spec _ (hsl hs.tail.tail) (hy.stepE hs.tail.tail hO)) ?_
  rintro e w ⟨rfl,hq⟩
  refine⟨_,rfl,?_⟩
  replace hs:=hs.callE hq
  refine pT<|wZ<|CW.condP rfl (fun h=>?_) (fun h=>?_)
  ·exact absurd h hxy
  refine ck<|cq<|cq<|CW.quiet mixedP (by kernel_rfl) hs ?_
  refine qm<|qm<|qy<|qm<|qy<|qn rfl<|qy<|qF 0 u54 rfl ty3 rfl<|qy<|qL ty3 rfl (fun w hs=>(Step.tail hs.tail).c0 (v:=.int .i64 (s.k:Nat)) rfl)<|qy<|qm<|qy<|qn rfl ?_
  refine qy<|qF 3 u54 rfl ty52 rfl<|qy<|qL ty52 rfl (fun w hs=>(Step.tail hs.tail).c0 (v:=.slice (some ⟨bv,0,none⟩) s.X.length c) rfl)<|qy<|qm ?_
  refine qy ?_;(first | refine QL.val rfl (fun w hs=>run_ixSlN u52 ty80 rfl rfl (by omega)) ?_ | refine QL.val rfl (fun w hs=>run_ixSl u52 ty80 rfl rfl (by omega)) ?_)
  refine qy<|qF 32 u80 rfl ty76 rfl<|qy<|qL ty76 rfl (fun w hs=>hcell hs.tail.tail)<|qy<|QL.enter rfl (fun w=>run_call en61 rfl rfl) (fun w hs=>ofR_spec (k:=s.k) _ (hsl hs.tail.tail) (by omega) ok.k1 ok.k2) ?_
  refine qy<|qV (fun w hs=>run_loadN ty44 rfl hdl hs.a0)<|qy<|qV (fun w hs=>run_eqDig hfl hd rfl rfl)<|qT<|QL.nil (fun w hs=>?_)
  refine CW.condP rfl (fun h=>?_) (fun h=>?_)
  ·rw[if_pos (show frontL b.x s.k=dg from h)] at hpr
   refine sr<|wV (run_build rfl ((bld_dig _)))<|WL.storeAll ty44 rfl rfl ((by rfl)) (Cells1.u8s _) (hs.swap) rfl (fun w hs=>?_)
   refine wA<|wZ<|CW.ret ?_
   refine fin_cellTmp rfl rfl (run_loadVarN ty44 (by rfl) hs.a0) ?_
   exact hfin (D':=[]) hpr hP (by rw[append_nil];exact Step.tail (Step.tail hs))
  ·rw[if_neg (show ¬frontL b.x s.k=dg from h)] at hpr
   by_cases hc:usedX (insX ⟨dg,y,s.last+1⟩ s.X)≤s.cap
   ·simp only[decide_eq_true hc] at hroom
    rw[if_pos hc] at hpr
    refine ck<|cq<|sr<|wm<|wR ty44 rfl hdl hs.a0<|wm<|wL u76 rfl<|wE rfl (run_call en113 rfl rfl) (hroom (hlat hs.tail.tail)) ?_
    rintro e w ⟨rfl,hq⟩
    refine⟨_,rfl,?_⟩
    replace hs:=hs.callE hq
    refine wN rfl<|wZ<|CW.cond rfl (fun h=>?_) (fun h=>?_)
    ·cases h
    refine ck<|sr<|wm<|wR ty44 rfl hdl hs.a0<|wm<|wE rfl (run_call en114 rfl rfl) (hlay (hkept hs.tail.tail) (hy.stepE hs.tail.tail hO)) ?_
    rintro e w ⟨R',D',rfl,hP',hq⟩
    refine⟨_,rfl,?_⟩
    replace hs:=Step.append_comm (L2:=[_,_]) (Step.call (L1:=_::Lv) (L:=[_,_]) (Step.append_comm (L1:=[_,_]) hs) hq)
    refine wZ<|sr<|wR ty44 rfl hdl hs.a0<|WL.storeAll ty44 rfl rfl (hdl) (Cells1.u8s _) (hs.swap) rfl (fun w hs=>?_)
    refine wA<|wZ<|CW.ret ?_
    refine fin_cellTmp rfl rfl (run_loadVarN ty44 (by assumption) hs.a0) ?_
    exact hfin hpr hP' (Step.tail (Step.tail hs))
   ·simp only[decide_eq_false hc] at hroom
    rw[if_neg hc] at hpr
    refine ck<|cq<|sr<|wm<|wR ty44 rfl hdl hs.a0<|wm<|wL u76 rfl<|wE rfl (run_call en113 rfl rfl) (hroom (hlat hs.tail.tail)) ?_
    rintro e w ⟨rfl,hq⟩
    refine⟨_,rfl,?_⟩
    replace hs:=hs.callE hq
    refine wN rfl<|wZ<|CW.cond rfl (fun h=>?_) (fun h=>?_)
    ·refine sr<|wV (run_build rfl ((bld_dig _)))<|WL.storeAll ty44 rfl rfl ((by rfl)) (Cells1.u8s _) (hs.swap) rfl (fun w hs=>?_)
     refine wA<|wZ<|CW.ret ?_
     refine fin_cellTmp rfl rfl (run_loadVarN ty44 (by rfl) hs.a0) ?_
     exact hfin (D':=[]) hpr hP (by rw[append_nil];exact Step.tail (Step.tail hs))
    ·cases h
end
section
variable{br:Nat}{s:AS}{D R:OL}{w0:World}{d y:U8}{v:Value}{n:Nat}
set_option maxHeartbeats 2000000 in
theorem revict_abs (hR:RRep br s D R) (ok:s.Ok) (hw:Lives (R++D) w0) (hd:d.length=32) :
  CP 63 #[pt br,.agg (u8s d).toArray] w0 fun e w'=>∃R',e=.returned (.bool (s.has d))∧RRep br (s.evict d) D R'∧Step (R.map (·.1)) R' w0 w':=by
 have ob:=hR.open ok hw
 obtain⟨a,c,Lv,T,o⟩:=ob
 have hs:Step (R.map (·.1)) ((br,blk 54 (rsC s.k s.cap s.last (.slice a s.X.length c) s.gets s.puts))::Lv) w0 w0:=by have h:=hw.left;rw[←o.eqR];exact h
 have hdl:(u8s d).length=32:=by rw[u8s,length_map,hd]
 have hXl:=used_len s.X
 have huse:=ok.used
 have hTl:=o.view.length
 have hP:=RRep.head o s.k s.cap s.last s.gets s.puts
 have ob:∃S,R.map (·.1)=S:=⟨_,rfl⟩
 obtain⟨S,hSe⟩:=ob
 have hlat:∀{w:World},Step S ((br,blk 54 (rsC s.k s.cap s.last (.slice a s.X.length c) s.gets s.puts))::Lv) w0 w→ROpen br s D ((br,blk 54 (rsC s.k s.cap s.last (.slice a s.X.length c) s.gets s.puts))::Lv) w a c Lv T:=fun h=>o.later s.k s.cap s.last s.gets s.puts (by rw[hSe];exact h)
 have hpl:=fun {w a c Lv T R} (h:ROpen br s D R w a c Lv T)=>place_spec (d:=d) h ok hd
 simp only[hSe] at hs⊢
 unfold AS.has at hpl⊢
 unfold AS.evict
 cases hf:findX d s.X with
 | none=>
  rw[hf] at hpl
  rw[delX_none hf]
  refine calls (n:=36) Tryz.func63 rfl rfl rfl ?_
  refine sr<|WL.box (cs:=u8s d) rfl rfl rfl hs (fun b3 w hs=>?_)
  refine wA<|wZ<|sr<|wm<|wR ty44 rfl hdl hs.a0<|wE rfl (run_call en115 rfl rfl) (hpl (hlat hs.tail)) ?_
  rintro e w ⟨rfl,hq⟩
  refine⟨_,rfl,?_⟩
  replace hs:=hs.callE hq
  refine wm<|wx rfl rfl<|wx rfl rfl<|wA<|wA<|wZ<|cq<|sr<|wm<|wZ<|CW.cond rfl (fun h=>?_) (fun h=>?_)
  ·cases h
  refine ck<|sr<|wm<|wA<|wZ<|CW.ret ?_
  refine fin_ret1 rfl ?_
  exact⟨_,rfl,hP,hs.tail⟩
 | some b=>
  rw[hf] at hpl
  have ob:=pos_some ok.sorted hf
  obtain⟨hb,hbd⟩:=ob
  have hlt:=(List.getElem?_eq_some_iff.1 hb).1
  have e:=del_pos (d:=d) ok.sorted (by rw[hf];rfl)
  have hca:Cells1 (rowsT ((T.take (posX d s.X)).drop 0)):=rowsT_cells1 fun t ht=>o.view.one t (mem_of_mem_take (mem_of_mem_drop ht))
  have hcb:Cells1 (rowsT ((T.take s.X.length).drop (posX d s.X+1))):=rowsT_cells1 fun t ht=>o.view.one t (mem_of_mem_take (mem_of_mem_drop ht))
  refine calls (n:=36) Tryz.func63 rfl rfl rfl ?_
  refine sr<|WL.box (cs:=u8s d) rfl rfl rfl hs (fun b3 w hs=>?_)
  refine wA<|wZ<|sr<|wm<|wR ty44 rfl hdl hs.a0<|wE rfl (run_call en115 rfl rfl) (hpl (hlat hs.tail)) ?_
  rintro e w ⟨rfl,hq⟩
  refine⟨_,rfl,?_⟩
  replace hs:=hs.callE hq
  refine wm<|wx rfl rfl<|wx rfl rfl<|wA<|wA<|wZ<|cq<|sr<|wm<|wZ<|CW.cond rfl (fun h=>?_) (fun h=>?_)
  ·refine sr<|wA<|wZ<|sr<|wm<|wm<|wn rfl<|wF 3 u54 rfl ty52 rfl<|wl ty52 rfl (hs.c1 (v:=.slice a s.X.length c) rfl)<|wm<|wV (run_cut (lo:=0) (hi:=posX d s.X) (hlat hs.tail) rfl rfl rfl (Nat.zero_le _) (by omega))<|WL.append u52 u52 ty80 rfl (by decide) rfl rfl (OwnSl.nil _ _) (hs) (cut_sl (hlat hs.tail) (Nat.zero_le _) (by omega)) (hca) (by omega) rfl (fun v22 Lv22 w hv22 hs=>?_)
   refine wA<|wZ ?_
   have ob:=hv22.form
   obtain⟨va,vc,rfl⟩:=ob
   have ho3:ROpen br s D _ w a c Lv T:=hlat (Step.tail (Step.dropL (L1:=Lv22) hs))
   refine cr<|wm<|wm<|wm<|wn rfl<|wF 3 u54 rfl ty52 rfl<|wl ty52 rfl ((Step.tail (Step.dropL (L1:=Lv22) hs)).c0 (v:=.slice a s.X.length c) rfl)<|wm<|wP ((posX d s.X+1:Nat):Int)<|wV (run_cut (lo:=posX d s.X+1) (hi:=s.X.length) ho3 rfl rfl rfl (by omega) (Nat.le_refl _))<|WL.append u52 u52 ty80 rfl (by decide) rfl rfl (hv22) (hs) (cut_sl ho3 (by omega) (Nat.le_refl _)) (hcb) (by omega) rfl (fun v32 Lv32 w hv32 hs=>?_)
   replace hs:=Step.front [_] (Step.append_comm (L1:=Lv32) hs)
   refine wn rfl<|wF 3 u54 rfl ty52 rfl<|ws1 ty52 rfl rfl (hv32.one) (hs) (fun w hs=>?_)
   refine wZ<|sr<|wm<|wA<|wZ<|CW.ret ?_
   refine fin_ret1 rfl ?_
   have hcnt:0+(posX d s.X - 0)+(s.X.length - (posX d s.X+1))=(delX d s.X).length:=by
    rw[e,length_append,length_take,length_drop,Nat.min_eq_left (by omega)];omega
   have hrows:[]++rowsT ((T.take (posX d s.X)).drop 0)++rowsT ((T.take s.X.length).drop (posX d s.X+1))=rowsT (T.take (posX d s.X)++T.drop (posX d s.X+1)):=by
    rw[drop_zero,←hTl,take_length,nil_append,rowsT_append]
   rw[hcnt,hrows] at hv32
   have hs2:Step S ((br,blk 54 (rsC s.k s.cap s.last v32 s.gets s.puts))::_::(Lv++Lv32)) w0 w:=hs
   have hs3:=Step.tail (Step.append_comm (L1:=[_]) (L2:=_::(Lv++Lv32)) hs2)
   have hs4:=Step.dropL (L1:=Lv) (Step.perm hs3 (List.Perm.of_eq (append_assoc Lv Lv32 [_])))
   refine⟨_,rfl,⟨v32,Lv32,T.take (posX d s.X)++T.drop (posX d s.X+1),rfl,hv32,?_⟩,Step.append_comm (L1:=Lv32) (L2:=[_]) hs4⟩
   simp only[e]
   exact(o.view.take _).append (o.view.drop _)
  ·cases h
end
end Go.Gx
namespace Go.Gx
open Go.Proofs List
structure Row where
 d:(List UInt8)
 v:Value
 hd:d.length=32
 hv:v.oneCell'=true
instance:Inhabited Row:=⟨⟨zD,.slice none 0 0,zD_len,rfl⟩⟩
def Row.enc (r:Row):List Value:=u8s r.d++[r.v]
def Row.cf (a b:Row):Int:=if ltD a.d b.d then -1 else 1
theorem Row.enc_len (r:Row):r.enc.length=33:=by simp[Row.enc,u8s,r.hd]
theorem Row.enc1 (r:Row):Cells1 r.enc:=by
 intro v hv
 rcases mem_append.1 hv with h | h
 ·exact Cells1.u8s r.d v h
 ·rw[mem_singleton.1 h];exact r.hv
def rowsR (R:List Row):List Value:=(R.map Row.enc).flatten
theorem rowsR_len (R:List Row):(rowsR R).length=R.length*33:=by
 induction R with
 | nil=>rfl
 | cons r R ih=>rw[rowsR,map_cons,flatten_cons,length_append,Row.enc_len,length_cons];rw[rowsR] at ih;omega
theorem rowsR_snoc (R:List Row) (r:Row):rowsR (R++[r])=rowsR R++r.enc:=by simp[rowsR]
theorem rowsR_at:∀(R:List Row) (i j:Nat) (h:i<R.length),j<33→(rowsR R)[i*33+j]?=(R[i].enc)[j]?
 | r::R,0,j,_,hj=>by
  rw[rowsR,map_cons,flatten_cons,Nat.zero_mul,Nat.zero_add,getElem?_append_left (by rw[Row.enc_len];exact hj)]
  rfl
 | r::R,i+1,j,h,hj=>by
  rw[rowsR,map_cons,flatten_cons,getElem?_append_right (by rw[Row.enc_len];omega),Row.enc_len,show(i+1)*33+j - 33=i*33+j by omega]
  exact rowsR_at R i j (by simpa using h) hj
theorem Row.cf_lt (a b:Row):ltOf Row.cf a b=ltD a.d b.d:=by
 unfold ltOf Row.cf
 cases ltD a.d b.d <;> rfl
theorem Row.swo:Sort.SWO (ltOf Row.cf) where
 irrefl x:=by rw[Row.cf_lt];exact ltD_irrefl _
 trans x y z h1 h2:=by rw[Row.cf_lt] at *;exact ltD_trans _ _ _ h1 h2
 ntrans x y z h1 h2:=by
  rw[Row.cf_lt] at *
  cases h:ltD x.d z.d with
  | false=>rfl
  | true=>
   cases h3:ltD y.d x.d with
   | true=>rw[ltD_trans _ _ _ h3 h] at h2;cases h2
   | false=>rw[ltD_tri _ _ h1 h3] at h;rw[h] at h2;cases h2
theorem cmpRow_spec (x y:Row) (w0:World):CP 80 #[.agg x.enc.toArray,.agg y.enc.toArray] w0 (Ret0 (.int .i64 (Row.cf x y)) w0):=by
 have hs:Step [] [] w0 w0:=Step.refl w0
 have hless:=fun w=>less_spec x.hd y.hd w
 have hx0:x.enc.take 32=u8s x.d:=by rw[Row.enc,take_append_of_le_length (by simp[u8s,x.hd]),take_of_length_le (by simp[u8s,x.hd])]
 have hy0:y.enc.take 32=u8s y.d:=by rw[Row.enc,take_append_of_le_length (by simp[u8s,y.hd]),take_of_length_le (by simp[u8s,y.hd])]
 have hxl:(u8s x.d).length=32:=by rw[u8s,length_map,x.hd]
 have hyl:(u8s y.d).length=32:=by rw[u8s,length_map,y.hd]
 unfold Row.cf
 cases hb:ltD x.d y.d
 ·simp only[hb] at hless
  refine calls (n:=10) Tryz.func80 rfl rfl rfl ?_
  refine sr<|WL.box (cs:=x.enc) rfl rfl rfl hs (fun b2 w hs=>?_)
  refine WL.box (cs:=y.enc) rfl rfl rfl hs (fun b3 w hs=>?_)
  refine wA<|wZ<|cq<|sr<|wF 0 u160 rfl ty44 rfl<|wR ty44 rfl hxl (by have h:=(hs.a1).take 32;rw[hx0] at h;exact h)<|wF 0 u160 rfl ty44 rfl<|wR ty44 rfl hyl (by have h:=(hs.a0).take 32;rw[hy0] at h;exact h)<|wE rfl (run_call en81 rfl rfl) (hless _) ?_
  rintro e w ⟨rfl,hq⟩
  refine⟨_,rfl,?_⟩
  replace hs:=hs.callE hq
  refine wZ<|CW.cond rfl (fun h=>?_) (fun h=>?_)
  ·cases h
  ·refine ck<|sr<|wA<|wZ<|CW.ret ?_
   refine fin_ret1 rfl ?_
   exact⟨rfl,hs.clear⟩
 ·simp only[hb] at hless
  refine calls (n:=10) Tryz.func80 rfl rfl rfl ?_
  refine sr<|WL.box (cs:=x.enc) rfl rfl rfl hs (fun b2 w hs=>?_)
  refine WL.box (cs:=y.enc) rfl rfl rfl hs (fun b3 w hs=>?_)
  refine wA<|wZ<|cq<|sr<|wF 0 u160 rfl ty44 rfl<|wR ty44 rfl hxl (by have h:=(hs.a1).take 32;rw[hx0] at h;exact h)<|wF 0 u160 rfl ty44 rfl<|wR ty44 rfl hyl (by have h:=(hs.a0).take 32;rw[hy0] at h;exact h)<|wE rfl (run_call en81 rfl rfl) (hless _) ?_
  rintro e w ⟨rfl,hq⟩
  refine⟨_,rfl,?_⟩
  replace hs:=hs.callE hq
  refine wZ<|CW.cond rfl (fun h=>?_) (fun h=>?_)
  ·refine sr<|wA<|wZ<|CW.ret ?_
   refine fin_ret1 rfl ?_
   exact⟨rfl,hs.clear⟩
  ·cases h
theorem Step.grown{L:OL}{w w':World} (h:Step [] L w w'):∃q os,w'=Go.Sort.grow (w.drewN q) os:=by
 refine⟨w'.drawn - w.drawn,w'.heap.extract w.heap.size w'.heap.size,?_⟩
 have hc:=h.chg
 have h1:w'.heap=w.heap++w'.heap.extract w.heap.size w'.heap.size:=by
  apply Array.ext_getElem?
  intro i
  rw[Array.getElem?_append]
  by_cases hi:i<w.heap.size
  ·rw[if_pos hi,hc.block i hi (by simp)]
  ·rw[if_neg hi,Array.getElem?_extract]
   have hle:=hc.size
   by_cases h2:i<w'.heap.size
   ·rw[if_pos (by omega),show w.heap.size+(i - w.heap.size)=i by omega]
   ·rw[if_neg (by omega),Array.getElem?_eq_none (by omega)]
 have h2:w'.drawn=w.drawn+(w'.drawn - w.drawn):=by have:w.drawn≤w'.drawn:=hc.drawn;omega
 obtain⟨hh,t,dr,o,out⟩:=w'
 obtain⟨hh2,t2,dr2,o2,out2⟩:=w
 obtain rfl:=hc.os
 obtain rfl:=hc.tape
 obtain rfl:=hc.output
 simp only[Go.Sort.grow,World.drewN]
 simp only at h1 h2
 rw[World.mk.injEq]
 exact⟨h1,rfl,h2,rfl,rfl⟩
theorem cmpLays (blk off size:Nat) (w:World):CmpLays Tryz.prog 80 #[] Row.enc 33 Row.cf blk off size w:=
 fun m os dk hs x y=>(cmpRow_spec x y _).mono fun e w' ⟨h1,h2⟩=>⟨h1,h2.grown⟩
theorem flatK_rows (R:List Row):Go.Sort.flatK Row.enc 33 R.toArray=(rowsR R).toArray:=by
 apply Array.ext_getElem?
 intro t
 by_cases ht:t<R.length*33
 ·have hi:t / 33<R.length:=by omega
  have hj:t % 33<33:=Nat.mod_lt _ (by decide)
  have h:=rowsR_at R (t / 33) (t % 33) hi hj
  rw[show t / 33*33+t % 33=t by omega] at h
  have hr:(rowsR R).toArray[t]?=R[t / 33].enc[t % 33]?:=by rw[←h];simp
  rw[hr]
  have h1:t<(Go.Sort.flatK Row.enc 33 R.toArray).size:=by simpa using ht
  rw[Array.getElem?_eq_getElem h1,←getElem!_pos (Go.Sort.flatK Row.enc 33 R.toArray) t h1,Go.Sort.get_flatK _ _ _ _ (by simpa using ht)]
  have e : (R.toArray)[t / 33]! = R[t / 33] := by simp [hi]
  rw[e]
  have hl:t % 33<(R[t / 33].enc).length:=by rw[Row.enc_len];exact hj
  rw[getElem!_pos (R[t / 33].enc) (t % 33) hl,getElem?_eq_getElem hl]
 ·rw[Array.getElem?_eq_none (by simp;omega),Array.getElem?_eq_none (by simp[rowsR_len];omega)]
theorem putCells_row (F:List Value) (cs:List Value) (h:F.length≤cs.length):Go.Sort.putCells id 0 F.toArray cs.toArray=(F++cs.drop F.length).toArray:=by
 apply Array.ext_getElem?
 intro i
 simp only[Go.Sort.putCells,Array.getElem?_mapIdx,getElem?_toArray]
 by_cases hi:i<F.length
 ·rw[getElem?_append_left hi,getElem?_eq_getElem hi,getElem?_eq_getElem (by omega)]
  simp[hi]
 ·rw[getElem?_append_right (by omega),getElem?_drop,show F.length+(i - F.length)=i by omega]
  cases hc:cs[i]? with
  | none=>rfl
  | some v=>simp[hi]
theorem perm_of_permIn {d d':Array Row} (h:Sort.PermIn 0 d.size d d'):d'.toList.Perm d.toList:=by
 have h1:=h.2.2
 have e1:(d.extract 0 d.size).toList=d.toList:=by simp
 have e2:(d'.extract 0 d.size).toList=d'.toList:=by rw[←h.1];simp
 rwa [e1,e2] at h1
theorem sorted_of {d':Array Row} (h:Sort.SortedIn (ltOf Row.cf) 0 d'.size d'):d'.toList.Pairwise (fun a b=>ltD b.d a.d=false):=by
 rw[pairwise_iff_getElem]
 intro i j hi hj hij
 have hi':i<d'.size:=by simpa using hi
 have hj':j<d'.size:=by simpa using hj
 have h1:=h i j (Nat.zero_le _) hij hj'
 rw[Row.cf_lt,getElem!_pos d' i hi',getElem!_pos d' j hj'] at h1
 simpa using h1
theorem Step.grow{S:List Nat}{L:OL}{w0 w:World} (hs:Step S L w0 w) (os:Array Obj):Step S L w0 (Go.Sort.grow w os):=by
 have hc:Step [] [] w (Go.Sort.grow w os):=by
  refine⟨⟨rfl,rfl,rfl,?_,fun k hk _=>?_,Nat.le_refl _⟩,by simp,by simp,by simp⟩
  ·show w.heap.size≤(w.heap++os).size
   simp
  ·show(w.heap++os)[k]?=_
   rw[Array.getElem?_append_left hk]
 exact hs.call0 hc
theorem mapBlock_blk{w:World}{b:Nat}{T:TypeId}{cs cs':List Value}{f:Array Value→Array Value} (h:w.heap[b]?=some (blk T cs)) (hf:f cs.toArray=cs'.toArray):Go.Sort.mapBlock w b f = { w with heap:=w.heap.setIfInBounds b (blk T cs') }:=by
 unfold Go.Sort.mapBlock
 congr 1
 apply Array.ext_getElem?
 intro i
 rw[Array.getElem?_modify,Array.getElem?_setIfInBounds]
 have hb:=lt_of_get h
 by_cases hi:b=i
 ·subst hi
  rw[if_pos rfl,if_pos rfl,if_pos hb,h]
  simp[Go.Sort.onCells,blk,hf]
 ·rw[if_neg hi,if_neg hi]
theorem sort_spec{u:Value}{R:List Row}{Lu:OL} (hu:OwnSl 160 33 u R.length (rowsR R) Lu) (w0:World) (hO:Step (Lu.map (·.1)) Lu w0 w0) (hsz:R.length<4611686018427387904) :
  CP 79 #[u,.func (.func 80) #[] #[]] w0 (fun e w'=>∃R' Lu',e=.returned (.tuple #[])∧R'.Perm R∧R'.Pairwise (fun a b=>ltD b.d a.d=false)∧OwnSl 160 33 u R'.length (rowsR R') Lu'∧Step (Lu.map (·.1)) Lu' w0 w'):=by
 obtain⟨hl,⟨rfl,h0,rfl⟩ | ⟨b,cap,more,rfl,rfl,hcap⟩⟩:=hu
 ·obtain rfl:R=[]:=eq_nil_of_length_eq_zero h0
  refine(AnyF.slices_SortFunc_none Tryz.sortRow none 0 (.func (.func 80) #[] #[]) w0).mono fun e w' ⟨h1,h2⟩=>?_
  subst h2
  exact⟨[],[],h1,List.Perm.refl _,List.Pairwise.nil,OwnSl.nil _ _,hO⟩
 ·have hb:w0.heap[b]?=some (blk 160 (rowsR R++more)):=hO.hd
  have eg:∀args w,(callFunc 80 args).run Tryz.prog w=.ok (.enter 80 args) w:=enters_of Tryz.func80 (by kernel_rfl) rfl
  have hH:Go.Sort.HoldsK Row.enc 33 w0 b 0 R.toArray:=by
   unfold Go.Sort.HoldsK
   rw[flatK_rows]
   intro j hj
   have hj':j<(rowsR R).length:=by simpa using hj
   rw[Nat.zero_add,cell_blk hb,getElem?_append_left hj',frozen_blk hb]
   refine⟨?_,rfl⟩
   rw[getElem?_eq_getElem hj']
   simp[hj']
  have hcon:=AnyQ.slices_SortFunc Tryz.sortRow 33 Tryz.isAgg160 Tryz.sizeOf160 Row.enc Row.enc_len Row.enc1 Row.cf Row.swo 80 #[] b 0 cap R.toArray w0 eg (cmpLays b 0 _ w0) hH (lt_of_get hb) (by simpa using hsz)
  rw[size_toArray] at hcon
  refine hcon.mono fun e w' ⟨h1,d',n,os,hp,hso,hw⟩=>?_
  have hp1:=perm_of_permIn (d:=R.toArray) (by simpa using hp)
  have hsz':d'.size=R.length:=by have:=hp.1;simpa using this
  rw[←hsz'] at hso
  have hlen:(rowsR d'.toList).length=(rowsR R).length:=by rw[rowsR_len,rowsR_len,hp1.length_eq]
  refine⟨d'.toList,[(b,blk 160 (rowsR d'.toList++more))],h1,hp1,sorted_of hso,⟨rowsR_len _,.inr ⟨b,cap,more,?_,rfl,?_⟩⟩,?_⟩
  ·rw[hp1.length_eq]
  ·rw[length_append,hlen,←length_append];exact hcap
  ·subst hw
   have hf:Go.Sort.flatK Row.enc 33 d'=(rowsR d'.toList).toArray:=by rw[←flatK_rows]
   have hput:Go.Sort.putCells id 0 (rowsR d'.toList).toArray (rowsR R++more).toArray=(rowsR d'.toList++more).toArray:=by
    rw[putCells_row _ _ (by rw[hlen,length_append];omega),hlen,drop_left]
   have hs1:Step [b] [(b,blk 160 (rowsR R++more))] w0 (Go.Sort.ahead w0 n):=Step.drewN hO n
   show Step [b] _ w0 (Go.Sort.grow (Go.Sort.mapBlock (Go.Sort.ahead w0 n) b (Go.Sort.putCells id 0 (Go.Sort.flatK Row.enc 33 d'))) os)
   rw[hf,mapBlock_blk hs1.hd hput]
   exact(hs1.setO _).grow os
theorem bld_row32 (a0 a1 a2 a3 a4 a5 a6 a7 a8 a9 a10 a11 a12 a13 a14 a15 a16 a17 a18 a19 a20 a21 a22 a23 a24 a25 a26 a27 a28 a29 a30 a31:UInt8) (a:Option Addr) (n c:Nat) (w:World):(Instr.build 160 #[(0,.agg (u8s [a0,a1,a2,a3,a4,a5,a6,a7,a8,a9,a10,a11,a12,a13,a14,a15,a16,a17,a18,a19,a20,a21,a22,a23,a24,a25,a26,a27,a28,a29,a30,a31]).toArray),(1,.slice a n c)]).run Tryz.prog w=.ok (.agg (u8s [a0,a1,a2,a3,a4,a5,a6,a7,a8,a9,a10,a11,a12,a13,a14,a15,a16,a17,a18,a19,a20,a21,a22,a23,a24,a25,a26,a27,a28,a29,a30,a31]++[Value.slice a n c]).toArray) w:=by kernel_rfl
theorem bld_row{d:U8} (hd:d.length=32) (a:Option Addr) (n c:Nat) (w:World):(Instr.build 160 #[(0,.agg (u8s d).toArray),(1,.slice a n c)]).run Tryz.prog w=.ok (.agg (u8s d++[Value.slice a n c]).toArray) w:=by
 have ob:=cells32 hd
 obtain⟨a0,a1,a2,a3,a4,a5,a6,a7,a8,a9,a10,a11,a12,a13,a14,a15,a16,a17,a18,a19,a20,a21,a22,a23,a24,a25,a26,a27,a28,a29,a30,a31,rfl⟩:=ob
 exact bld_row32 a0 a1 a2 a3 a4 a5 a6 a7 a8 a9 a10 a11 a12 a13 a14 a15 a16 a17 a18 a19 a20 a21 a22 a23 a24 a25 a26 a27 a28 a29 a30 a31 a n c w
def datV (v:Value):Value:=match v with | .agg a=>(a[0]?).getD (.slice none 0 0) | _=>.slice none 0 0
theorem all_spec{bs k cap used last m gets puts clock:Nat}{M:List MEnt} (w0:World) (hb:w0.heap[bs]?=some (blk 140 (stC k cap used last m gets puts))) (hm:w0.heap[m]?=some (mapObj M clock))
  (hM:Keys32 M) (hB:Born M clock) (hV:∀p∈M,BlobV p.2.1) (hML:M.length≤1099511627776) :
  CP 31 #[pt bs] w0 (fun e w'=>∃b3 lv Lv R,e=.returned (.func (.func 82) #[] #[pt b3])∧((R:List Row).map (fun r=>(r.d,r.v))).Perm (M.map (fun p=>(p.1,datV p.2.1)))∧R.Pairwise (fun a b=>ltD b.d a.d=false)∧
   OwnSl 160 33 lv R.length (rowsR R) Lv∧Step [] ((b3,blk 156 [lv])::Lv) w0 w'):=by
 have hs:Step [] [] w0 w0:=Step.refl w0
 have hat:At w0 bs 0 (stC k cap used last m gets puts):=At.of_blk hb
 refine calls (n:=26) Tryz.func31 rfl rfl rfl ?_
 refine sr<|wA<|wZ<|sr<|WL.alloc ty156 rfl hs (fun b3 w hs=>?_)
 refine wZ<|cq<|sr<|wm<|wn rfl<|wF 4 u140 rfl ty138 rfl<|wl ty138 rfl ((hat.step hs.clear (by simp)).cell (j:=4) rfl)<|WL.rangeM u138 rfl (hs.old hm (by simp)) rfl hs (fun b10 w hs=>?_)
 refine wZ<|cB<|CW.loop (fun mm f w'=>∃done left R lv Lv,mm=left.length∧(done++left).Perm M∧(R:List Row).map (fun r=>(r.d,r.v))=done.map (fun p:MEnt=>(p.1,datV p.2.1))∧OwnSl 160 33 lv R.length (rowsR R) Lv∧Step [] ((b10,iterO m clock done)::(b3,blk 156 [lv])::Lv) w0 w'∧Holds f [(0,pt bs),(3,pt b3),(10,pt b10)]) (m:=M.length) ?_ ?_
 ·exact⟨[],M,[],_,[],rfl,List.Perm.refl _,rfl,OwnSl.nil _ _,hs,rfl,rfl,rfl,trivial⟩
 ·rintro mm f w ⟨done,left,R,lv,Lv,rfl,hperm,hR,hlv,hs,hf⟩
  have ob:=hf.chain
  obtain⟨g,rfl⟩:=ob
  have hRl:R.length=done.length:=by have:=congrArg List.length hR;simpa using this
  by_cases hne:left=[]
  ·subst hne
   refine sr<|wV (run_nextMEnd rfl hs.hd (hs.old hm (by simp)) hB hperm)<|wx rfl rfl<|wZ<|cq<|CW.cond rfl (fun h=>?_) (fun h=>?_)
   ·cases h
   have hln:R.length<4611686018427387904:=by
    have:=hperm.length_eq
    simp only[append_nil] at this
    omega
   replace hs:=Step.append_comm (L1:=[_,_]) (L2:=Lv) hs
   have hO:=Step.own (L1:=Lv) hs
   refine CW.exit<|sr<|wl ty156 rfl ((hs.append_comm).c1 (v:=lv) rfl)<|wE rfl (run_call en79 rfl rfl) (sort_spec hlv _ (Step.own (L1:=Lv) hs) hln) ?_
   rintro e w ⟨R',Lu',rfl,hp',hso,hlv',hq⟩
   refine⟨_,rfl,?_⟩
   replace hs:=Step.call (L1:=Lv) hs hq
   refine wZ<|sr<|wV (run_makeFuncC rfl)<|wA<|wZ<|CW.ret ?_
   refine fin_ret1 rfl ?_
   rw[append_nil] at hperm
   refine⟨b3,lv,Lu',R',rfl,?_,hso,hlv',(Step.append_comm (L1:=Lu') (L2:=[_,_]) hs).tail⟩
   exact(hp'.map _).trans (by rw[hR];exact hperm.map _)
  ·refine sr<|WL.nextM rfl rfl hs (hs.old hm (by simp)) hB hperm hne (fun p left' w hleft hperm hs=>?_)
   refine wx rfl rfl<|wZ ?_
   have hpM:p∈M:=hperm.mem_iff.1 (by simp)
   have hpv:=hV p hpM
   obtain⟨pd,pv,pb⟩:=p
   obtain⟨a,nn,c,st,rfl⟩:=hpv
   have hpd:pd.length=32:=hM _ hpM
   have hdl:(u8s pd).length=32:=by rw[u8s,length_map,hpd]
   have hlen:left.length=left'.length+1:=by rw[hleft.length_eq];rfl
   have hdn:done.length<M.length:=by
    have:=hperm.length_eq
    simp only[length_append,length_cons,length_nil] at this
    omega
   refine cq<|CW.cond rfl (fun h=>?_) (fun h=>?_)
   ·let r:Row:=⟨pd,.slice a nn c,hpd,rfl⟩
    have hre:(u8s pd++[Value.slice a nn c]).length=33:=r.enc_len
    refine ck<|cB<|sr<|wV (run_entryM rfl hs.hd (hs.old hm (by simp)) hB hpM)<|wx rfl rfl<|wx rfl rfl<|WL.alloc ty44 rfl hs (fun b4 w hs=>?_)
    refine WL.alloc ty158 rfl hs (fun b5 w hs=>?_)
    refine WL.storeAll_1 ty44 rfl rfl ((hdl)) (Cells1.u8s _) hs (by rfl) (fun w hs=>?_)
    refine WL.storeAll ty158 rfl rfl ((by rfl)) (Cells1.of_all rfl) hs (by rfl) (fun w hs=>?_)
    refine wZ<|cr<|wl ty156 rfl (hs.tail.tail.tail.c0 rfl)<|wR ty44 rfl hdl hs.a1<|wF 0 u158 rfl ty76 rfl<|wl ty76 rfl (hs.c0 (v:=.slice a nn c) rfl)<|wV (run_build rfl ((bld_row hpd a nn c _)))<|WL.buildSlice (cs:=u8s pd++[Value.slice a nn c]) u156 ty160 rfl (by decide) rfl (filled1 hre rfl) rfl hs (fun b21 w hs=>?_)
    have hsl:Sl w 33 (.slice (some ⟨b21,0,none⟩) 1 1) 1 (u8s pd++[Value.slice a nn c]):=.own1 hs (by rw[hre])
    refine WL.append u156 u156 ty160 rfl (by decide) rfl rfl (hlv) (Step.append_comm (L1:=[_,_,_,_,_]) (L2:=Lv) hs) (hsl) (r.enc1) (by omega) rfl (fun v22 Lv22 w hv22 hs=>?_)
    replace hs:=Step.front [_,_,_,_] (Step.append_comm (L1:=Lv22) (L2:=[_,_,_,_,_]) hs)
    refine ws1 ty156 rfl rfl (hv22.one) (hs) (fun w hs=>?_)
    refine wZ ?_
    have e1:R.length+1=(R++[r]).length:=by simp
    have e2:rowsR R++(u8s pd++[Value.slice a nn c])=rowsR (R++[r]):=(rowsR_snoc R r).symm
    rw[e1,e2] at hv22
    refine(show _∧_ from⟨rfl,_,?_,done++[(pd,.agg #[.slice a nn c,.int .i64 st],pb)],left',R++[r],v22,Lv22,rfl,hperm,?_,hv22,?_,rfl,rfl,rfl,trivial⟩)
    ·omega
    ·rw[map_append,map_append,hR];rfl
    ·exact Step.append_comm (L1:=Lv22) (L2:=[_,_]) (Step.dropL (L1:=[_,_,_]) (Step.append_comm (L1:=[_,_]) (L2:=_::_::_::Lv22) (hs.front [_,_,_,_])))
   ·cases h
end Go.Gx
namespace Go.Gx
def Fr (ro:Option Nat):Fence:={ Fence.wide with round:=ro }
theorem fr_calls{ro:Option Nat}{k:Nat}{P:Program}{F:FuncId}{args:Array Value}{w:World}{R:Ending→World→Prop} (h:Calls P F args w R):CallsIn (Fr ro) k P F args w R:=callsIn_wide.2 h
section
variable{P:Program}{ops:Array Oper}
def plainOp (o:Oper):Bool:=match o.op with | .defer _=>false | _=>true
theorem plainOp_ne{o:Oper} (h:plainOp o=true):∀c,o.op≠.defer c:=fun c e=>by
 unfold plainOp at h
 rw[e] at h
 cases h
theorem semAt_fr{ro:Option Nat}{o:Oper} (h:plainOp o=true) (ρ:Operand→Value):o.semAt ro ρ=execOp ρ o:=Oper.semAt_eq ro ρ o (plainOp_ne h)
theorem wpListIn_of{ro:Option Nat}{Q:Exit→Act→World→Prop} (hQ:∀a w,¬Q .outgrown a w):∀(l:List Oper) (a:Act) (w:World),(l.all plainOp)=true→wpList P ops Q l a w→wpListIn (Fr ro) 0 P ops Q l a w
 | [],a,w,_,h=>h
 | o::l,a,w,hp,h=>by
  rw[List.all_cons,Bool.and_eq_true] at hp
  have ih:=fun a w=>wpListIn_of (ro:=ro) hQ l a w hp.2
  simp only[wpList] at h
  simp only[wpListIn]
  split
  ·rename_i hw
   rw[if_pos hw] at h
   rcases h with h | ⟨_,a0,w0,h0⟩
   ·refine⟨fun f _=>trivial,?_⟩
    rw[semAt_fr (ro:=(Fr ro).round) hp.1]
    unfold Oper.wp at h
    generalize (execOp a.eval o).run P w=r at h⊢
    cases r with
    | ok x w'=>
     cases x <;> simp only[Oper.upon] at h <;> simp only[Oper.uponIn]
     case value=>exact ih _ _ h
     case skip=>exact ih _ _ h
     case defer=>exact ih _ _ h
     case enter=>
      refine⟨fun h=>by simp[Fr,Fence.wide] at h,fr_calls (h.mono fun e w' hR=>?_)⟩
      cases e with
      | returned v=>exact ih _ _ hR
      | panicked ch=>exact hR
      | outgrown=>exact hR
     case row=>
      refine⟨fun h=>by simp[Fr,Fence.wide] at h,?_⟩
      intro c cs _
      have ob:=h c cs
      obtain⟨v,w',hv,hs⟩:=ob
      exact⟨v,w',ih _ _ hv,stepsIn_wide.2 hs⟩
    | halt x w'=>
     cases x <;> simp only[Oper.upon] at h <;> simp only[Oper.uponIn]
     exact h
   ·exact absurd h0 (hQ _ _)
  ·rename_i hw
   rw[if_neg hw] at h
   exact⟨fun f _=>trivial,ih _ _ h⟩
end
structure WLI (P:Program) (ro:Option Nat) (ops:Array Oper) (Q:Post) (n:Nat) (l:List Oper) (f:Slots) (ds:List Deferred) (w:World):Prop where
 out:∀a,Rep n f ds a→wpListIn (Fr ro) 0 P ops (lift n Q) l a w
structure CWI (P:Program) (ro:Option Nat) (c:Code) (Q:Post) (n:Nat) (f:Slots) (ds:List Deferred) (w:World):Prop where
 out:∀a,Rep n f ds a→c.wpIn (Fr ro) 0 P (lift n Q) a w
section
variable{P:Program}{ro:Option Nat}{ops:Array Oper}{Q:Post}{n:Nat}{rest:List Oper}{f:Slots}{ds:List Deferred}{w w':World}{o:Op}{ty:TypeId}{pos:String}{af:Array Edge}
theorem WLI.nil (h:Q .normal f ds w):WLI P ro ops Q n [] f ds w:=⟨fun a ha=>⟨f,ds,ha,h⟩⟩
def Yields (P:Program) (l:Nat) (args:Array Value) (w:World) (R:Bool→World→Prop):Prop:=
 YieldAt Fence.wide 0 P l args w fun e w'=>∃b,e=.returned (.bool b)∧R b w'
theorem WLI.yield{d l:Nat}{fo:Operand}{args:Array Operand}{ats:Array TypeId}{vs:List Value}{R:Bool→World→Prop} (hd:Nat.blt d n=true) (hx:ev f fo=.func (.yield l) #[] #[]) (hv:args.toList.map (ev f)=vs)
  (hy:Yields P l vs.toArray w R) (h:∀b w',R b w'→WLI P ro ops Q n rest (upd f d (.bool b)) ds w'):WLI P ro ops Q n (⟨some d,.call { callee:=.value fo,args,argTypes:=ats },ty,pos,af,none⟩::rest) f ds w:=
 ⟨fun a ha=>wpListIn_plain rfl fun K hK=>by
  refine⟨fun f _=>trivial,?_⟩
  have e:args.map (ev f)=vs.toArray:=by rw[←hv];apply Array.ext';simp
  obtain⟨fn,tmps,as_,bd,h1,h2⟩:=hy
  have hrun:(execOp (ev f) ⟨some d,.call { callee:=.value fo,args,argTypes:=ats },ty,pos,af,none⟩).run P w=.ok (.round l fn tmps as_ bd) w:=by
   simp[execOp,resolve,hx,Deferred.ofValue,e,invoke,callFunc,h1]
  rw[semAt_fr (ro:=(Fr ro).round) rfl,ha.eval,hrun]
  refine⟨fun h=>by simp[Fr,Fence.wide] at h,RoundIn.mono (F:=Fr ro) (show RoundIn (Fr ro) 0 P l fn tmps as_ bd w _ from h2) fun e w' hR=>?_⟩
  obtain⟨b,rfl,hb⟩:=hR
  exact hK _ _ ((h b w' hb).out _ (ha.put hd (.bool b)))⟩
end
section
variable{P:Program}{ro:Option Nat}{Q:Post}{n:Nat}{f:Slots}{ds:List Deferred}{w:World}
def NoOut (Q:Post):Prop:=∀f ds w,¬Q .outgrown f ds w
theorem CWI.reg{id:Nat}{l:List Oper} (hp:l.all plainOp=true) (hQ:NoOut Q) (h:WL P l.toArray Q n l f ds w):CWI P ro (.region id l.toArray false) Q n f ds w:=
 ⟨fun a ha=>wpIn_region_lit (wpListIn_of (fun a w ⟨f',ds',_,h⟩=>hQ _ _ _ h) l a w hp (h.out a ha))⟩
theorem CWI.seq{x y:Code} (h:CWI P ro x (thenC (CWI P ro y Q n) Q) n f ds w):CWI P ro (.seq x y) Q n f ds w:=
 ⟨fun a ha=>wpIn_seq (wpIn_mono (h.out a ha) fun e a' w' ⟨f',ds',hr,hq⟩=>by
  cases e with
  | normal=>exact(show CWI P ro y Q n f' ds' w' from hq).out a' hr
  | exit id=>exact⟨f',ds',hr,hq⟩
  | goto id=>exact⟨f',ds',hr,hq⟩
  | ret=>exact⟨f',ds',hr,hq⟩
  | panic ch=>exact⟨f',ds',hr,hq⟩
  | outgrown=>exact⟨f',ds',hr,hq⟩)⟩
theorem CWI.cond{c:Operand}{x y:Code}{b:Bool} (hc:ev f c=.bool b) (ht:b=true→CWI P ro x Q n f ds w) (hf:b=false→CWI P ro y Q n f ds w):CWI P ro (.cond c x y) Q n f ds w:=
 ⟨fun a ha=>wpIn_cond_split (by rw[ha.eval];exact hc) (fun h=>(ht h).out a ha) (fun h=>(hf h).out a ha)⟩
theorem CWI.condF{c:Operand}{x y:Code} (hc:ev f c=.bool false) (h:CWI P ro y Q n f ds w):CWI P ro (.cond c x y) Q n f ds w:=
 .cond hc (fun h=>by cases h) (fun _=>h)
theorem CWI.block{id:Nat}{c:Code} (h:CWI P ro c (inB id Q) n f ds w):CWI P ro (.block id c) Q n f ds w:=
 ⟨fun a ha=>wpIn_block (wpIn_mono (h.out a ha) fun e a' w' ⟨f',ds',hr,hq⟩=>by
  cases e with
  | exit id'=>
   simp only[inB] at hq
   by_cases hid:id'=id
   ·subst hid
    simp only[Exit.inBlock,if_true]
    exact⟨f',ds',hr,by simpa using hq⟩
   ·have hb:Nat.beq id' id=false:=by
     cases hb:Nat.beq id' id with
     | true=>exact absurd (Nat.eq_of_beq_eq_true hb) hid
     | false=>rfl
    simp only[Exit.inBlock,hid,if_false]
    rw[hb] at hq
    exact⟨f',ds',hr,hq⟩
  | normal=>exact⟨f',ds',hr,hq⟩
  | goto id=>exact⟨f',ds',hr,hq⟩
  | ret=>exact⟨f',ds',hr,hq⟩
  | panic ch=>exact⟨f',ds',hr,hq⟩
  | outgrown=>exact⟨f',ds',hr,hq⟩)⟩
theorem CWI.skip (h:Q .normal f ds w):CWI P ro .skip Q n f ds w:=⟨fun a ha=>wpIn_skip ⟨f,ds,ha,h⟩⟩
def RecOf (t:Tmp) (assign body:Code) (f:Slots) (n:Nat) (r:Loop):Prop:=r.params=#[t]∧r.assign=assign∧r.body=body∧r.tmps.size=n∧∀k,r.tmps.getD k undef=f k
def Loop.at(r:Loop) (s:LoopState) (p:Option Code):Loop:={ r with state:=s,pending:=p }
def RQ (l:Nat) (R:Bool→World→Prop):Post
 | .normal,_,_,w=>∃S L w0 r,Step S ((l,.loop r)::L) w0 w∧∀w',Step S ((l,.loop (Loop.at r .ready none))::L) w0 w'→R true w'
 | .ret,_,_,w=>∃S L w0 r,Step S ((l,.loop r)::L) w0 w∧∀w',Step S ((l,.loop (Loop.at r .done (some .ret)))::L) w0 w'→R false w'
 | .exit id,_,_,w=>∃S L w0 r,Step S ((l,.loop r)::L) w0 w∧∀w',Step S ((l,.loop (Loop.at r .done (some (.exit id))))::L) w0 w'→R false w'
 | .goto id,_,_,w=>False
 | .panic _,_,_,_=>False
 | .outgrown,_,_,_=>False
theorem rq_end{l:Nat}{R:Bool→World→Prop}{S:List Nat}{L:OL}{w0 w:World}{r:Loop} (hs:Step S ((l,.loop r)::L) w0 w) (jump:Option Code) :
  ∃w',(Instr.endRound l jump).run P w=.ok (.bool jump.isNone) w'∧Step S ((l,.loop (Loop.at r (if jump.isNone then .ready else .done) jump))::L) w0 w':=
 ⟨_,run_endRound jump hs.hd,hs.setObj _⟩
def Behind (P:Program) (ro:Option Nat) (l:Nat) (Q:Post) (n:Nat) (f:Slots) (ds:List Deferred) (w:World):Prop:=
 ∃S L w0 r,Step S ((l,.loop r)::L) w0 w∧r.state≠.busy∧∀w',Step S ((l,.loop (Loop.at r .exhausted r.pending))::L) w0 w'→
  match r.pending with
  | none=>Q .normal f ds w'
  | some c=>CWI P ro c Q n f ds w'
def markOf (b:Nat):Deferred:={ target:=.collected b,args:=#[] }
theorem rangePost_of{l:Nat}{a':Act} (hr:Rep n f ds a'){e:Ending}{w1:World} (h:(∃v,e=.returned v)∧Behind P ro l Q n f ds w1):rangePost (Fr ro) 0 P l (lift n Q) a' e w1:=by
 obtain⟨⟨v,rfl⟩,S,L,w0,r,hs,hb,hk⟩:=h
 refine⟨r.pending,_,run_endLoop hs.hd hb,?_⟩
 have:=hk _ (hs.setObj (.loop (Loop.at r .exhausted r.pending)))
 cases hp:r.pending with
 | none=>
  rw[hp] at this
  exact⟨f,ds,hr,this⟩
 | some c=>
  rw[hp] at this
  exact this.out a' hr
end
section marks
variable{P:Program}{n:Nat}{w:World}{fn:Func}{R:Ending→World→Prop}{f:Slots}
def finM (P:Program) (n:Nat) (fn:Func) (R:Ending→World→Prop):Post:=fun e f ds w=>∀a,Rep n f ds a→bodyPostM Fence.wide 0 P fn R e a w
theorem callsM{F:FuncId}{c:Code}{vs:List Value} (hf:P.funcs[F]?=some fn) (hb:fn.body=some c) (hn:fn.ntmps=n) (hv:Nat.ble vs.length n=true)
  (h:CW P c (finM P n fn R) n (ini vs) [] w):Calls P F vs.toArray w R:=
 (callsIn_wide (n:=0)).1 (callsIn_of_wp_marks hf hb trivial (wpIn_wide.2 (Code.wp_mono (fun e a w ⟨f,ds,hr,hq⟩=>hq a hr) (h.out _ (by rw[hn];exact rep_ini (by simpa using hv))))))
def marksO (bs:List Nat):(List (Nat×Obj)):=bs.map fun b=>(b,.deferred (some []))
def marksS (bs:List Nat):(List (Nat×Obj)):=bs.map fun b=>(b,.deferred none)
theorem leavesM_of{tmps:Array Value}{S:List Nat}{w0:World}:∀(bs:List Nat) (L:OL) (w:World),Step S (marksO bs++L) w0 w→
  (∀w',Step S (marksS bs++L) w0 w'→∃v,(results fn tmps).run P w'=.ok v w'∧R (.returned v) w')→LeavesInM Fence.wide 0 P fn tmps R (bs.map markOf) .returning w
 | [],L,w,hs,h=>h w hs
 | b::bs,L,w,hs,h=>by
  refine⟨by simp,.inl ⟨b,_,rfl,run_takeDeferred hs.hd,?_⟩⟩
  have hs':Step S ((b,.deferred none)::(marksO bs++L)) w0 (putO w b (.deferred none)):=Step.setObj (L:=marksO bs++L) hs _
  refine leavesM_of bs ((b,.deferred none)::L) _ (hs'.perm List.perm_middle.symm) fun w' hw'=>?_
  exact h w' (hw'.perm List.perm_middle)
theorem finM_ret{e:Exit} (he:e=.ret∨e=.normal){bs:List Nat}{S:List Nat}{L:OL}{w0:World} (hs:Step S (marksO bs++L) w0 w)
  (h:∀a,Rep n f (bs.map markOf) a→∀w',Step S (marksS bs++L) w0 w'→∃v,(results fn a.tmps).run P w'=.ok v w'∧R (.returned v) w'):finM P n fn R e f (bs.map markOf) w:=fun a ha=>by
 have:=leavesM_of (fn:=fn) (R:=R) (tmps:=a.tmps) bs L w hs (h a ha)
 rcases he with rfl | rfl
 ·show LeavesInM Fence.wide 0 P fn a.tmps R a.defers .returning w
  rw[ha.defers]
  exact this
 ·show LeavesInM Fence.wide 0 P fn a.tmps R a.defers .returning w
  rw[ha.defers]
  exact this
end marks
section more
variable{P:Program}{ro:Option Nat}{Q:Post}{n l:Nat}{f:Slots}{ds:List Deferred}{w w0:World}{S:List Nat}{L:OL}{r:Loop}
theorem behind_none (hs:Step S ((l,.loop r)::L) w0 w) (hst:r.state=.ready) (hp:r.pending=none) (h:∀w',Step S ((l,.loop (Loop.at r .exhausted none))::L) w0 w'→Q .normal f ds w'):Behind P ro l Q n f ds w:=by
 refine⟨S,L,w0,r,hs,by rw[hst];simp,fun w' hs'=>?_⟩
 rw[hp] at hs'⊢
 exact h w' hs'
theorem Loop.at_back {s : LoopState} {p : Option Code} (hs : r.state = .ready) (hp : r.pending = none) : Loop.at (Loop.at r s p) .ready none = r := by
 cases r
 simp only at hs hp
 subst hs hp
 rfl
end more
section more2
variable{P:Program}{Q:Post}{n:Nat}{f:Slots}{ds:List Deferred}{w w0:World}{S:List Nat}{L:OL}
theorem Step.inCell{b o:Nat}{T:TypeId}{cs:List Value}{v:Value} (hs:Step S L w0 w) (hm:(b,blk T cs)∈L) (ho:cs[o]?=some v):w.cell? ⟨b,o,none⟩=some v:=by rw[cell_blk (hs.has _ hm),ho]
end more2
end Go.Gx
