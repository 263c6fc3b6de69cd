/- Short names for the steps that stand most often. Panics, deferred calls, recover: over slots. No program in sight. Regions that draw their order: quiet operations (also quiet calls) ahead of a tail in one forced order. No program in sight. The road is the kit's StillTail, at a class of worlds. Plain -/
import Derived.Test.YtplmnkogkfhaiaaGreatT1
import Derived.Recover
import Derived.StillTail
import Derived.Scope
import Derived.Test.YtplmnkogkfhaiaaGreatShelf
import Derived.Lib.SliceRun
import Derived.Lib.Overlaps
import Derived.Laws.Externs
set_option linter.unusedVariables false
set_option linter.unusedSimpArgs false
set_option maxRecDepth 100000
namespace Go.Gx
open Go.Proofs
abbrev CP:=Calls Tryz.prog
section
variable{P:Program}{ops:Array Oper}{Q:Post}{n d:Nat}{rest:List Oper}{f:Slots}{ds:List Deferred}{w w':World}{ty:TypeId}{pos:String}{af:Array Edge}{x y:Operand}{o:Op}{T:TypeId}
theorem wm (h:WL P ops Q n rest (upd f d (ev f x)) ds w) (hd:Nat.blt d n=true:=by exact rfl):WL P ops Q n (⟨some d,.move x,ty,pos,af,none⟩::rest) f ds w:=WL.val hd run_move h
theorem wA (h:WL P ops Q n rest (upd f d (ev f x)) ds w) (hd:Nat.blt d n=true:=by exact rfl):WL P ops Q n (⟨some d,.assign x,ty,pos,af,none⟩::rest) f ds w:=WL.val hd run_assign h
theorem wn{A:Addr} (hx:ev f x=.pointer (some A)) (h:WL P ops Q n rest (upd f d (.pointer (some A))) ds w) (hd:Nat.blt d n=true:=by exact rfl):WL P ops Q n (⟨some d,.nilCheck x,ty,pos,af,none⟩::rest) f ds w:=WL.val hd (run_nilCheck hx) h
theorem wx{vs:Array Value}{i:Nat}{v:Value} (hx:ev f x=.tuple vs) (hi:vs[i]?=some v) (h:WL P ops Q n rest (upd f d v) ds w) (hd:Nat.blt d n=true:=by exact rfl):WL P ops Q n (⟨some d,.extract x i,ty,pos,af,none⟩::rest) f ds w:=WL.val hd (run_extract hx hi) h
theorem wV{v:Value} (hrun:(execOp (ev f) ⟨some d,o,ty,pos,af,none⟩).run P w=.ok (.value v) w') (h:WL P ops Q n rest (upd f d v) ds w') (hd:Nat.blt d n=true:=by exact rfl):WL P ops Q n (⟨some d,o,ty,pos,af,none⟩::rest) f ds w:=WL.val hd hrun h
theorem wF{bk off i:Nat} (o':Nat){fs:Array Field}{fd:Field}{agg:Bool}{k bytes:Nat}{zs:List Value} (ht:P.underlying T=some (.struct fs)) (hf:fs[i]?=some fd) (hE:Ty P fd.type agg k bytes zs) (hx:ev f x=.pointer (some ⟨bk,off,none⟩))
  (h:WL P ops Q n rest (upd f d (.pointer (some ⟨bk,off+o',none⟩))) ds w) (hd:Nat.blt d n=true:=by exact rfl) (hn:Nat.beq k 0=false:=by exact rfl) (ho:fd.offset=o':=by exact rfl):WL P ops Q n (⟨some d,.fieldAddr T x i,ty,pos,af,none⟩::rest) f ds w:=WL.val hd (run_field ht hf hE hn ho hx) h
theorem wl{k bytes:Nat}{zs:List Value}{A:Addr}{v:Value} (hT:Ty P T false k bytes zs) (hx:ev f x=.pointer (some A)) (hv:w.cell? A=some v) (h:WL P ops Q n rest (upd f d v) ds w) (hd:Nat.blt d n=true:=by exact rfl):WL P ops Q n (⟨some d,.load T x,ty,pos,af,none⟩::rest) f ds w:=WL.val hd (run_load1 hT hx hv) h
theorem wy{d:Option Nat}{j dj:Nat}{want:Bool} (h:WL P ops Q n (⟨d,o,ty,pos,af,none⟩::rest) f ds w) (hj:(ops[j]?).bind (·.dst)=some dj:=by exact rfl) (hdj:Nat.blt dj n=true:=by exact rfl) (hv:f dj=.bool want:=by exact rfl):WL P ops Q n (⟨d,o,ty,pos,af,some (j,want)⟩::rest) f ds w:=WL.yes hj hdj hv h
theorem wz{j dj:Nat}{want:Bool} (h:WL P ops Q n rest (upd f d undef) ds w) (hd:Nat.blt d n=true:=by exact rfl) (hj:(ops[j]?).bind (·.dst)=some dj:=by exact rfl) (hdj:Nat.blt dj n=true:=by exact rfl) (hv:f dj=.bool (!want)∨f dj=undef:=by first | exact .inl rfl | exact .inr rfl) :
  WL P ops Q n (⟨some d,o,ty,pos,af,some (j,want)⟩::rest) f ds w:=WL.no hd hj hdj hv h
theorem lT{k:IntKind}{a b:Int}{T':TypeId} (h:WL P ops Q n rest (upd f d (.bool true)) ds w) (hx:ev f x=.int k a:=by exact rfl) (hy:ev f y=.int k b:=by exact rfl) (hp:a<b:=by omega) (hd:Nat.blt d n=true:=by exact rfl):WL P ops Q n (⟨some d,.binOp .lss T x y T',ty,pos,af,none⟩::rest) f ds w:=WL.val hd (run_bT (run_lss hx hy) hp) h
theorem lF{k:IntKind}{a b:Int}{T':TypeId} (h:WL P ops Q n rest (upd f d (.bool false)) ds w) (hx:ev f x=.int k a:=by exact rfl) (hy:ev f y=.int k b:=by exact rfl) (hp:¬(a<b):=by omega) (hd:Nat.blt d n=true:=by exact rfl):WL P ops Q n (⟨some d,.binOp .lss T x y T',ty,pos,af,none⟩::rest) f ds w:=WL.val hd (run_bF (run_lss hx hy) hp) h
theorem xT{k:IntKind}{a b:Int}{T':TypeId} (h:WL P ops Q n rest (upd f d (.bool true)) ds w) (hx:ev f x=.int k a:=by exact rfl) (hy:ev f y=.int k b:=by exact rfl) (hp:b<a:=by omega) (hd:Nat.blt d n=true:=by exact rfl):WL P ops Q n (⟨some d,.binOp .gtr T x y T',ty,pos,af,none⟩::rest) f ds w:=WL.val hd (run_bT (run_gtr hx hy) hp) h
theorem xF{k:IntKind}{a b:Int}{T':TypeId} (h:WL P ops Q n rest (upd f d (.bool false)) ds w) (hx:ev f x=.int k a:=by exact rfl) (hy:ev f y=.int k b:=by exact rfl) (hp:¬(b<a):=by omega) (hd:Nat.blt d n=true:=by exact rfl):WL P ops Q n (⟨some d,.binOp .gtr T x y T',ty,pos,af,none⟩::rest) f ds w:=WL.val hd (run_bF (run_gtr hx hy) hp) h
theorem iT{k:IntKind}{a b:Int}{T':TypeId} (h:WL P ops Q n rest (upd f d (.bool true)) ds w) (hx:ev f x=.int k a:=by exact rfl) (hy:ev f y=.int k b:=by exact rfl) (hp:a≤b:=by omega) (hd:Nat.blt d n=true:=by exact rfl):WL P ops Q n (⟨some d,.binOp .leq T x y T',ty,pos,af,none⟩::rest) f ds w:=WL.val hd (run_bT (run_leq hx hy) hp) h
theorem iF{k:IntKind}{a b:Int}{T':TypeId} (h:WL P ops Q n rest (upd f d (.bool false)) ds w) (hx:ev f x=.int k a:=by exact rfl) (hy:ev f y=.int k b:=by exact rfl) (hp:¬(a≤b):=by omega) (hd:Nat.blt d n=true:=by exact rfl):WL P ops Q n (⟨some d,.binOp .leq T x y T',ty,pos,af,none⟩::rest) f ds w:=WL.val hd (run_bF (run_leq hx hy) hp) h
theorem jT{k:IntKind}{a b:Int}{T':TypeId} (h:WL P ops Q n rest (upd f d (.bool true)) ds w) (hx:ev f x=.int k a:=by exact rfl) (hy:ev f y=.int k b:=by exact rfl) (hp:b≤a:=by omega) (hd:Nat.blt d n=true:=by exact rfl):WL P ops Q n (⟨some d,.binOp .geq T x y T',ty,pos,af,none⟩::rest) f ds w:=WL.val hd (run_bT (run_geq hx hy) hp) h
theorem jF{k:IntKind}{a b:Int}{T':TypeId} (h:WL P ops Q n rest (upd f d (.bool false)) ds w) (hx:ev f x=.int k a:=by exact rfl) (hy:ev f y=.int k b:=by exact rfl) (hp:¬(b≤a):=by omega) (hd:Nat.blt d n=true:=by exact rfl):WL P ops Q n (⟨some d,.binOp .geq T x y T',ty,pos,af,none⟩::rest) f ds w:=WL.val hd (run_bF (run_geq hx hy) hp) h
theorem eT{k:IntKind}{a b:Int}{T':TypeId} (h:WL P ops Q n rest (upd f d (.bool true)) ds w) (hx:ev f x=.int k a:=by exact rfl) (hy:ev f y=.int k b:=by exact rfl) (hp:a=b:=by omega) (hd:Nat.blt d n=true:=by exact rfl):WL P ops Q n (⟨some d,.binOp .eql T x y T',ty,pos,af,none⟩::rest) f ds w:=WL.val hd (run_bT (run_eql hx hy) hp) h
theorem eF{k:IntKind}{a b:Int}{T':TypeId} (h:WL P ops Q n rest (upd f d (.bool false)) ds w) (hx:ev f x=.int k a:=by exact rfl) (hy:ev f y=.int k b:=by exact rfl) (hp:¬(a=b):=by omega) (hd:Nat.blt d n=true:=by exact rfl):WL P ops Q n (⟨some d,.binOp .eql T x y T',ty,pos,af,none⟩::rest) f ds w:=WL.val hd (run_bF (run_eql hx hy) hp) h
theorem nT{k:IntKind}{a b:Int}{T':TypeId} (h:WL P ops Q n rest (upd f d (.bool true)) ds w) (hx:ev f x=.int k a:=by exact rfl) (hy:ev f y=.int k b:=by exact rfl) (hp:a≠b:=by omega) (hd:Nat.blt d n=true:=by exact rfl):WL P ops Q n (⟨some d,.binOp .neq T x y T',ty,pos,af,none⟩::rest) f ds w:=WL.val hd (run_bT (run_neq hx hy) hp) h
theorem nF{k:IntKind}{a b:Int}{T':TypeId} (h:WL P ops Q n rest (upd f d (.bool false)) ds w) (hx:ev f x=.int k a:=by exact rfl) (hy:ev f y=.int k b:=by exact rfl) (hp:¬(a≠b):=by omega) (hd:Nat.blt d n=true:=by exact rfl):WL P ops Q n (⟨some d,.binOp .neq T x y T',ty,pos,af,none⟩::rest) f ds w:=WL.val hd (run_bF (run_neq hx hy) hp) h
theorem wP{a b:Int}{T':TypeId} (c:Int) (h:WL P ops Q n rest (upd f d (.int .i64 c)) ds w) (hx:ev f x=.int .i64 a:=by exact rfl) (hy:ev f y=.int .i64 b:=by exact rfl) (hc:a+b=c:=by omega) (hr : -9223372036854775808≤c∧c≤9223372036854775807:=by omega) (hd:Nat.blt d n=true:=by exact rfl):WL P ops Q n (⟨some d,.binOp .add T x y T',ty,pos,af,none⟩::rest) f ds w:=WL.val hd (run_add hx hy hc hr) h
theorem wS{a b:Int}{T':TypeId} (c:Int) (h:WL P ops Q n rest (upd f d (.int .i64 c)) ds w) (hx:ev f x=.int .i64 a:=by exact rfl) (hy:ev f y=.int .i64 b:=by exact rfl) (hc:a - b=c:=by omega) (hr : -9223372036854775808≤c∧c≤9223372036854775807:=by omega) (hd:Nat.blt d n=true:=by exact rfl):WL P ops Q n (⟨some d,.binOp .sub T x y T',ty,pos,af,none⟩::rest) f ds w:=WL.val hd (run_sub hx hy hc hr) h
theorem pT{z:Operand} (h:WL P ops Q n rest (upd f d (ev f y)) ds w) (hx:ev f x=.bool true:=by exact rfl) (hd:Nat.blt d n=true:=by exact rfl):WL P ops Q n (⟨some d,.pick x y z,ty,pos,af,none⟩::rest) f ds w:=WL.val hd (run_pickT hx) h
theorem pF{z:Operand} (h:WL P ops Q n rest (upd f d (ev f z)) ds w) (hx:ev f x=.bool false:=by exact rfl) (hd:Nat.blt d n=true:=by exact rfl):WL P ops Q n (⟨some d,.pick x y z,ty,pos,af,none⟩::rest) f ds w:=WL.val hd (run_pickF hx) h
abbrev pt (b:Nat):Value:=.pointer (some ⟨b,0,none⟩)
abbrev U8:=List UInt8
abbrev OL:=List (Nat×Obj)
theorem wN{b:Bool} (hx:ev f x=.bool b) (h:WL P ops Q n rest (upd f d (.bool !b)) ds w) (hd:Nat.blt d n=true:=by exact rfl):WL P ops Q n (⟨some d,.unOp .not T x,ty,pos,af,none⟩::rest) f ds w:=WL.val hd (run_not hx) h
theorem wL{E:TypeId}{ad:Option Addr}{len cap:Nat} (ht:P.underlying T=some (.slice E)) (hx:ev f x=.slice ad len cap) (h:WL P ops Q n rest (upd f d (.int .i64 len)) ds w) (hd:Nat.blt d n=true:=by exact rfl):WL P ops Q n (⟨some d,.call { callee:=.builtin .len,args:=#[x],argTypes:=#[T] },ty,pos,af,none⟩::rest) f ds w:=WL.val hd (run_lenSl ht hx) h
theorem wI{E:TypeId}{len cap:Nat}{kn:IntKind}{agg:Bool}{sz bytes:Nat}{zs:List Value}{bk off i:Nat} (ht:P.underlying T=some (.slice E)) (hE:Ty P E agg sz bytes zs) (hx:ev f x=.slice (some ⟨bk,off,none⟩) len cap) (hy:ev f y=.int kn i) (h:WL P ops Q n rest (upd f d (.pointer (some ⟨bk,off+i*sz,none⟩))) ds w) (hi:i<len:=by omega) (hd:Nat.blt d n=true:=by exact rfl):WL P ops Q n (⟨some d,.indexAddr T x y,ty,pos,af,none⟩::rest) f ds w:=WL.val hd (run_ixSlN ht hE hx hy hi) h
theorem wR{sz bytes:Nat}{zs:List Value}{bk off:Nat}{cs:List Value} (hT:Ty P T true sz bytes zs) (hx:ev f x=.pointer (some ⟨bk,off,none⟩)) (hl:cs.length=sz) (ha:At w bk off cs) (h:WL P ops Q n rest (upd f d (.agg cs.toArray)) ds w) (hd:Nat.blt d n=true:=by exact rfl):WL P ops Q n (⟨some d,.load T x,ty,pos,af,none⟩::rest) f ds w:=WL.val hd (run_loadN hT hx hl ha) h
theorem ws1{S:List Nat}{L:List (Nat×Obj)}{w0:World}{agg:Bool}{bytes:Nat}{zs cs:List Value}{b o:Nat}{T':TypeId}{v:Value} (hT:Ty P T agg 1 bytes zs) (hx:ev f x=.pointer (some ⟨b,o,none⟩)) (hy:ev f y=v) (hv:v.oneCell'=true)
  (hs:Step S ((b,blk T' cs)::L) w0 w) (h:∀w',Step S ((b,blk T' (cs.set o v))::L) w0 w'→WL P ops Q n rest f ds w') (ho:o<cs.length:=by first | (simp;done) | omega | (simp only[List.length_append,List.length_replicate,List.length_cons,List.length_nil,List.length_set];omega) | (simp[Ent.cells,u8s];done) | exact Nat.le_of_ble_eq_true rfl):WL P ops Q n (⟨none,.store T x y,ty,pos,af,none⟩::rest) f ds w:=WL.store1 hT hx hy hv hs ho h
end
section
variable{P:Program}{Q:Post}{n:Nat}{f:Slots}{ds:List Deferred}{w:World}
theorem sr{id:Nat}{l:List Oper}{y:Code} (h:WL P l.toArray (thenC (CW P y Q n) Q) n l f ds w):CW P (.seq (.region id l.toArray false) y) Q n f ds w:=CW.seq (CW.reg h)
abbrev cq:=@CW.seq
abbrev cr:=@CW.reg
abbrev ck:=@CW.skip
abbrev cB:=@CW.block
abbrev cT:=@CW.condT
abbrev cF:=@CW.condF
abbrev wZ:=@WL.nil
abbrev wE:=@WL.enter
end
section
variable{P:Program}{ops:Array Oper}{S:List Nat}{L:List (Nat×Obj)}{w0:World}{Q:Slots→Prop}{n d:Nat}{rest:List Oper}{f:Slots}{ds:List Deferred}{ty:TypeId}{pos:String}{af:Array Edge}{x:Operand}{o:Op}{T:TypeId}
theorem qm (h:QL P ops S L w0 Q n rest (upd f d (ev f x)) ds) (hd:Nat.blt d n=true:=by exact rfl):QL P ops S L w0 Q n (⟨some d,.move x,ty,pos,af,none⟩::rest) f ds:=QL.val hd (fun w hs=>run_move) h
theorem qn{A:Addr} (hx:ev f x=.pointer (some A)) (h:QL P ops S L w0 Q n rest (upd f d (.pointer (some A))) ds) (hd:Nat.blt d n=true:=by exact rfl):QL P ops S L w0 Q n (⟨some d,.nilCheck x,ty,pos,af,none⟩::rest) f ds:=QL.val hd (fun w hs=>run_nilCheck hx) h
theorem qx{vs:Array Value}{i:Nat}{v:Value} (hx:ev f x=.tuple vs) (hi:vs[i]?=some v) (h:QL P ops S L w0 Q n rest (upd f d v) ds) (hd:Nat.blt d n=true:=by exact rfl):QL P ops S L w0 Q n (⟨some d,.extract x i,ty,pos,af,none⟩::rest) f ds:=QL.val hd (fun w hs=>run_extract hx hi) h
theorem qV{v:Value} (hrun:∀w,Step S L w0 w→(execOp (ev f) ⟨some d,o,ty,pos,af,none⟩).run P w=.ok (.value v) w) (h:QL P ops S L w0 Q n rest (upd f d v) ds) (hd:Nat.blt d n=true:=by exact rfl):QL P ops S L w0 Q n (⟨some d,o,ty,pos,af,none⟩::rest) f ds:=QL.val hd hrun h
theorem qF{bk off i:Nat} (o':Nat){fs:Array Field}{fd:Field}{agg:Bool}{k bytes:Nat}{zs:List Value} (ht:P.underlying T=some (.struct fs)) (hf:fs[i]?=some fd) (hE:Ty P fd.type agg k bytes zs) (hx:ev f x=.pointer (some ⟨bk,off,none⟩))
  (h:QL P ops S L w0 Q n rest (upd f d (.pointer (some ⟨bk,off+o',none⟩))) ds) (hd:Nat.blt d n=true:=by exact rfl) (hn:Nat.beq k 0=false:=by exact rfl) (ho:fd.offset=o':=by exact rfl):QL P ops S L w0 Q n (⟨some d,.fieldAddr T x i,ty,pos,af,none⟩::rest) f ds:=QL.val hd (fun w hs=>run_field ht hf hE hn ho hx) h
theorem qA (h:QL P ops S L w0 Q n rest (upd f d (ev f x)) ds) (hd:Nat.blt d n=true:=by exact rfl):QL P ops S L w0 Q n (⟨some d,.assign x,ty,pos,af,none⟩::rest) f ds:=QL.val hd (fun w hs=>run_assign) h
theorem qT{y z:Operand} (h:QL P ops S L w0 Q n rest (upd f d (ev f y)) ds) (hx:ev f x=.bool true:=by exact rfl) (hd:Nat.blt d n=true:=by exact rfl):QL P ops S L w0 Q n (⟨some d,.pick x y z,ty,pos,af,none⟩::rest) f ds:=QL.val hd (fun w hs=>run_pickT hx) h
theorem qP{y z:Operand} (h:QL P ops S L w0 Q n rest (upd f d (ev f z)) ds) (hx:ev f x=.bool false:=by exact rfl) (hd:Nat.blt d n=true:=by exact rfl):QL P ops S L w0 Q n (⟨some d,.pick x y z,ty,pos,af,none⟩::rest) f ds:=QL.val hd (fun w hs=>run_pickF hx) h
theorem qL{k bytes:Nat}{zs:List Value}{A:Addr}{v:Value} (hT:Ty P T false k bytes zs) (hx:ev f x=.pointer (some A)) (hv:∀w,Step S L w0 w→w.cell? A=some v) (h:QL P ops S L w0 Q n rest (upd f d v) ds) (hd:Nat.blt d n=true:=by exact rfl):QL P ops S L w0 Q n (⟨some d,.load T x,ty,pos,af,none⟩::rest) f ds:=QL.val hd (fun w hs=>run_load1 hT hx (hv w hs)) h
theorem qR{sz bytes:Nat}{zs:List Value}{bk off:Nat}{cs:List Value} (hT:Ty P T true sz bytes zs) (hx:ev f x=.pointer (some ⟨bk,off,none⟩)) (hl:cs.length=sz) (ha:∀w,Step S L w0 w→At w bk off cs) (h:QL P ops S L w0 Q n rest (upd f d (.agg cs.toArray)) ds) (hd:Nat.blt d n=true:=by exact rfl):QL P ops S L w0 Q n (⟨some d,.load T x,ty,pos,af,none⟩::rest) f ds:=QL.val hd (fun w hs=>run_loadN hT hx hl (ha w hs)) h
theorem qI{E:TypeId}{len cap:Nat}{kn:IntKind}{agg:Bool}{sz bytes:Nat}{zs:List Value}{bk off i:Nat}{y:Operand} (ht:P.underlying T=some (.slice E)) (hE:Ty P E agg sz bytes zs) (hx:ev f x=.slice (some ⟨bk,off,none⟩) len cap) (hy:ev f y=.int kn i) (h:QL P ops S L w0 Q n rest (upd f d (.pointer (some ⟨bk,off+i*sz,none⟩))) ds) (hi:i<len:=by omega) (hd:Nat.blt d n=true:=by exact rfl):QL P ops S L w0 Q n (⟨some d,.indexAddr T x y,ty,pos,af,none⟩::rest) f ds:=QL.val hd (fun w hs=>run_ixSlN ht hE hx hy hi) h
theorem qy{d:Option Nat}{j dj:Nat}{want:Bool} (h:QL P ops S L w0 Q n (⟨d,o,ty,pos,af,none⟩::rest) f ds) (hj:(ops[j]?).bind (·.dst)=some dj:=by exact rfl) (hdj:Nat.blt dj n=true:=by exact rfl) (hv:f dj=.bool want:=by exact rfl):QL P ops S L w0 Q n (⟨d,o,ty,pos,af,some (j,want)⟩::rest) f ds:=QL.yes hj hdj hv h
theorem qz{j dj:Nat}{want:Bool} (h:QL P ops S L w0 Q n rest (upd f d undef) ds) (hd:Nat.blt d n=true:=by exact rfl) (hj:(ops[j]?).bind (·.dst)=some dj:=by exact rfl) (hdj:Nat.blt dj n=true:=by exact rfl) (hv:f dj=.bool (!want)∨f dj=undef:=by first | exact .inl rfl | exact .inr rfl) :
  QL P ops S L w0 Q n (⟨some d,o,ty,pos,af,some (j,want)⟩::rest) f ds:=QL.no hd hj hdj hv h
end
section
variable{P:Program}{ops:Array Oper}{n:Nat}{f:Slots}{ds:List Deferred}{w:World}{A C:World→Prop}{s:Nat}{Qn:Slots→World→Prop}{Qp:List PanicEntry→World→Prop}{o:Op}{ty:TypeId}{pos:String}{af:Array Edge}{fuel:Nat}{done:List Nat}
theorem aV (i:Nat){d:Nat}{v:Value} (hi:ops[i]?=some ⟨some d,o,ty,pos,af,none⟩) (hrun:∀w,C w→(execOp (ev f) ⟨some d,o,ty,pos,af,none⟩).run P w=.ok (.value v) w) (h:AL P ops s A C Qn Qp n ds fuel (i::done) (upd f d v) w) (hq:quietAt ops s done i=true:=by kernel_rfl) (hd:Nat.blt d n=true:=by exact rfl):AL P ops s A C Qn Qp n ds (fuel+1) done f w:=AL.val i hi hq hd hrun h
theorem aM (i:Nat){d:Nat}{x:Operand} (hi:ops[i]?=some ⟨some d,.move x,ty,pos,af,none⟩) (h:AL P ops s A C Qn Qp n ds fuel (i::done) (upd f d (ev f x)) w) (hq:quietAt ops s done i=true:=by kernel_rfl) (hd:Nat.blt d n=true:=by exact rfl):AL P ops s A C Qn Qp n ds (fuel+1) done f w:=AL.val i hi hq hd (fun _ _=>run_move) h
theorem aF (i:Nat){d:Nat}{x:Operand}{T:TypeId}{bk off q:Nat}{fs:Array Field}{fd:Field}{agg:Bool}{k bytes:Nat}{zs:List Value} (hi:ops[i]?=some ⟨some d,.fieldAddr T x q,ty,pos,af,none⟩) (o':Nat) (ht:P.underlying T=some (.struct fs)) (hf:fs[q]?=some fd) (hE:Ty P fd.type agg k bytes zs) (hx:ev f x=.pointer (some ⟨bk,off,none⟩)) (h:AL P ops s A C Qn Qp n ds fuel (i::done) (upd f d (.pointer (some ⟨bk,off+o',none⟩))) w) (hq:quietAt ops s done i=true:=by kernel_rfl) (hd:Nat.blt d n=true:=by exact rfl) (hn:Nat.beq k 0=false:=by exact rfl) (ho:fd.offset=o':=by exact rfl):AL P ops s A C Qn Qp n ds (fuel+1) done f w:=AL.val i hi hq hd (fun _ _=>run_field ht hf hE hn ho hx) h
theorem aN (i:Nat){d:Nat}{x:Operand}{B:Addr} (hi:ops[i]?=some ⟨some d,.nilCheck x,ty,pos,af,none⟩) (hx:ev f x=.pointer (some B)) (h:AL P ops s A C Qn Qp n ds fuel (i::done) (upd f d (.pointer (some B))) w) (hq:quietAt ops s done i=true:=by kernel_rfl) (hd:Nat.blt d n=true:=by exact rfl):AL P ops s A C Qn Qp n ds (fuel+1) done f w:=AL.val i hi hq hd (fun _ _=>run_nilCheck hx) h
theorem aX (i:Nat){d j:Nat}{x:Operand}{vs:Array Value}{v:Value} (hi:ops[i]?=some ⟨some d,.extract x j,ty,pos,af,none⟩) (hx:ev f x=.tuple vs) (hj:vs[j]?=some v) (h:AL P ops s A C Qn Qp n ds fuel (i::done) (upd f d v) w) (hq:quietAt ops s done i=true:=by kernel_rfl) (hd:Nat.blt d n=true:=by exact rfl):AL P ops s A C Qn Qp n ds (fuel+1) done f w:=AL.val i hi hq hd (fun _ _=>run_extract hx hj) h
theorem aA (i:Nat){d:Nat}{x:Operand} (hi:ops[i]?=some ⟨some d,.assign x,ty,pos,af,none⟩) (h:AL P ops s A C Qn Qp n ds fuel (i::done) (upd f d (ev f x)) w) (hq:quietAt ops s done i=true:=by kernel_rfl) (hd:Nat.blt d n=true:=by exact rfl):AL P ops s A C Qn Qp n ds (fuel+1) done f w:=AL.val i hi hq hd (fun _ _=>run_assign) h
theorem aL (i:Nat){d:Nat}{x:Operand}{T:TypeId}{k bytes:Nat}{zs:List Value}{B:Addr}{v:Value} (hi:ops[i]?=some ⟨some d,.load T x,ty,pos,af,none⟩) (hT:Ty P T false k bytes zs) (hx:ev f x=.pointer (some B)) (hv:∀w,C w→w.cell? B=some v) (h:AL P ops s A C Qn Qp n ds fuel (i::done) (upd f d v) w) (hq:quietAt ops s done i=true:=by kernel_rfl) (hd:Nat.blt d n=true:=by exact rfl):AL P ops s A C Qn Qp n ds (fuel+1) done f w:=AL.val i hi hq hd (fun w hc=>run_load1 hT hx (hv w hc)) h
end
abbrev u1:=@Tryz.underlying1
abbrev u2:=@Tryz.underlying2
abbrev u3:=@Tryz.underlying3
abbrev u4:=@Tryz.underlying4
abbrev u5:=@Tryz.underlying5
abbrev u8:=@Tryz.underlying8
abbrev u9:=@Tryz.underlying9
abbrev u20:=@Tryz.underlying20
abbrev u21:=@Tryz.underlying21
abbrev u22:=@Tryz.underlying22
abbrev u23:=@Tryz.underlying23
abbrev u24:=@Tryz.underlying24
abbrev u25:=@Tryz.underlying25
abbrev u26:=@Tryz.underlying26
abbrev u28:=@Tryz.underlying28
abbrev u30:=@Tryz.underlying30
abbrev u32:=@Tryz.underlying32
abbrev u35:=@Tryz.underlying35
abbrev u39:=@Tryz.underlying39
abbrev u40:=@Tryz.underlying40
abbrev u42:=@Tryz.underlying42
abbrev u44:=@Tryz.underlying44
abbrev u50:=@Tryz.underlying50
abbrev u52:=@Tryz.underlying52
abbrev u54:=@Tryz.underlying54
abbrev u64:=@Tryz.underlying64
abbrev u65:=@Tryz.underlying65
abbrev u72:=@Tryz.underlying72
abbrev u76:=@Tryz.underlying76
abbrev u80:=@Tryz.underlying80
abbrev u115:=@Tryz.underlying115
abbrev u116:=@Tryz.underlying116
abbrev u124:=@Tryz.underlying124
abbrev u129:=@Tryz.underlying129
abbrev u130:=@Tryz.underlying130
abbrev u132:=@Tryz.underlying132
abbrev u138:=@Tryz.underlying138
abbrev u140:=@Tryz.underlying140
abbrev u141:=@Tryz.underlying141
abbrev u155:=@Tryz.underlying155
abbrev u156:=@Tryz.underlying156
abbrev u158:=@Tryz.underlying158
abbrev u160:=@Tryz.underlying160
abbrev u174:=@Tryz.underlying174
abbrev u186:=@Tryz.underlying186
abbrev u188:=@Tryz.underlying188
abbrev u190:=@Tryz.underlying190
abbrev u201:=@Tryz.underlying201
abbrev u207:=@Tryz.underlying207
abbrev u209:=@Tryz.underlying209
abbrev u212:=@Tryz.underlying212
abbrev u215:=@Tryz.underlying215
abbrev u217:=@Tryz.underlying217
abbrev u220:=@Tryz.underlying220
abbrev u228:=@Tryz.underlying228
abbrev u240:=@Tryz.underlying240
abbrev u256:=@Tryz.underlying256
abbrev u266:=@Tryz.underlying266
abbrev u268:=@Tryz.underlying268
abbrev u281:=@Tryz.underlying281
abbrev u291:=@Tryz.underlying291
abbrev u298:=@Tryz.underlying298
abbrev u300:=@Tryz.underlying300
abbrev u302:=@Tryz.underlying302
abbrev u308:=@Tryz.underlying308
end Go.Gx
namespace Go.Gx
section
variable{P:Program}{ops:Array Oper}{Q:Post}{n:Nat}{rest:List Oper}{f:Slots}{ds:List Deferred}{w w':World}{o:Op}{ty:TypeId}{pos:String}{af:Array Edge}{d:Option Tmp}
theorem WL.enterX{F:FuncId}{args:Array Value}{R:Ending→World→Prop}
  (hrun:(execOp (ev f) ⟨d,o,ty,pos,af,none⟩).run P w=.ok (.enter F args) w) (hc:Calls P F args w R)
  (h:∀e w',R e w'→∃ch,e=.panicked ch∧Q (.panic ch) f ds w'):WL P ops Q n (⟨d,o,ty,pos,af,none⟩::rest) f ds w:=
 ⟨fun a ha=>wpList_plain rfl fun K hK=>by
  unfold Oper.wp
  rw[ha.eval,hrun]
  refine hc.mono fun e w' hR=>?_
  have ob:=h e w' hR
  obtain⟨ch,rfl,hq⟩:=ob
  exact⟨f,ds,ha,hq⟩⟩
theorem run_mkIface{T:TypeId}{t:TypeDesc}{x:Operand} (ht:P.underlying T=some t) (hi:(match t with | .interface _=>false | _=>true)=true) :
  (execOp (ev f) ⟨d,.makeInterface T x,ty,pos,af,none⟩).run P w=.ok (.value (.iface T (ev f x))) w:=by
 cases t <;> simp[execOp,Instr.makeInterface,run_underlying ht] at hi⊢
theorem run_panicI{T:TypeId}{v:Value}{x:Operand} (hx:ev f x=.iface T v) :
  (execOp (ev f) ⟨d,.panic x,ty,pos,af,none⟩).run P w=.halt (.panic (.iface T v)) w:=by
 simp[execOp,hx,Instr.panic,goPanic]
theorem invoke_fn{F:FuncId} (hF:En P F) (cap vas:Array Value):(invoke (.fn (.func F) cap) vas).run P w=.ok (.enter F (vas++cap)) w:=by
 have ob:=hF.ok
 obtain⟨fn,hf,hb,hn⟩:=ob
 simp only[invoke,callFunc,Sem.run_bind,run_program,Result.andThen_ok,hf,hn,hb,Bool.false_eq_true,if_false,Sem.run_pure]
theorem run_callV{F:FuncId}{fo:Operand}{args:Array Operand}{ats:Array TypeId}{vs cap:List Value} (hF:En P F)
  (hx:ev f fo=.func (.func F) #[] cap.toArray) (hv:args.toList.map (ev f)=vs) :
  (execOp (ev f) ⟨d,.call { callee:=.value fo,args,argTypes:=ats },ty,pos,af,none⟩).run P w=.ok (.enter F (vs++cap).toArray) w:=by
 have e:args.map (ev f)=vs.toArray:=by rw[←hv];apply Array.ext';simp
 have h:=invoke_fn (w:=w) hF cap.toArray vs.toArray
 rw[List.append_toArray] at h
 simp[execOp,resolve,hx,Deferred.ofValue,e]
 simpa using h
theorem run_makeFuncC{F:Fn}{captured:Array Operand}{cs:List Value} (hc:captured.toList.map (ev f)=cs) :
  (execOp (ev f) ⟨d,.makeFunc F #[] captured,ty,pos,af,none⟩).run P w=.ok (.value (.func F #[] cs.toArray)) w:=by
 have e:captured.map (ev f)=cs.toArray:=by rw[←hc];apply Array.ext';simp
 rw[run_makeFunc,e]
 simp
theorem run_deferV{F:FuncId}{fo:Operand}{ats:Array TypeId}{cap:List Value}
  (hx:ev f fo=.func (.func F) #[] cap.toArray) :
  (execOp (ev f) ⟨d,.defer { callee:=.value fo,args:=#[],argTypes:=ats },ty,pos,af,none⟩).run P w=.ok (.defer { target:=.fn (.func F) cap.toArray,args:=#[] }) w:=by
 simp[execOp,resolve,hx,Deferred.ofValue]
theorem run_assertOk{T A:TypeId}{t:TypeDesc}{v:Value}{x:Operand} (ht:P.underlying A=some t) (hi:(match t with | .interface _=>false | _=>true)=true) (hx:ev f x=.iface A v) :
  (execOp (ev f) ⟨d,.typeAssert x T A true,ty,pos,af,none⟩).run P w=.ok (.value (.tuple #[v,.bool true])) w:=by
 cases t <;> simp[execOp,Instr.typeAssert,run_underlying ht,hx] at hi⊢
end
section defers
variable{P:Program}{n:Nat}{w:World}{fn:Func}{R:Ending→World→Prop}{f:Slots}
def finD (P:Program) (n:Nat) (fn:Func) (R:Ending→World→Prop):Post:=fun e f ds w=>∀a,Rep n f ds a→bodyPostD P fn R e a w
theorem callsDef{F:FuncId}{c:Code}{vs:List Value} (hf:P.funcs[F]?=some fn) (hb:fn.body=some c) (hn:fn.ntmps=n) (hv:Nat.ble vs.length n=true)
  (h:CW P c (finD P n fn R) n (ini vs) [] w):Calls P F vs.toArray w R:=
 calls_of_wp_defers hf hb (Code.wp_mono (fun e a w ⟨f,ds,hr,hq⟩=>hq a hr) (h.out _ (by rw[hn];exact rep_ini (by simpa using hv))))
theorem finD_ret{F:FuncId}{cap:List Value} (hF:En P F)
  (hc:CallsD P F cap.toArray .returning w fun e u' w'=>(∃v,e=.returned v)∧settle u'=.returning∧∀a:Act,Rep n f [{ target:=.fn (.func F) cap.toArray,args:=#[] }] a→∃v,(results fn a.tmps).run P w'=.ok v w'∧R (.returned v) w') :
  finD P n fn R .ret f [{ target:=.fn (.func F) cap.toArray,args:=#[] }] w:=fun a ha=>by
 show Leaves P fn a.tmps R a.defers .returning w
 rw[ha.defers]
 refine leaves_cons (by simp) (by rw[invoke_fn hF];simp) (hc.mono fun e u' w' h=>?_)
 obtain⟨⟨v,rfl⟩,h2,h3⟩:=h
 simp only[h2]
 exact h3 a ha
theorem finD_panic{F:FuncId}{cap:List Value}{ch:List PanicEntry} (hF:En P F)
  (hc:CallsD P F cap.toArray (.panicking ch) w fun e u' w'=>(∃v,e=.returned v)∧settle u'=.returning∧∀a:Act,Rep n f [{ target:=.fn (.func F) cap.toArray,args:=#[] }] a→∃v,(results fn a.tmps).run P w'=.ok v w'∧R (.returned v) w') :
  finD P n fn R (.panic ch) f [{ target:=.fn (.func F) cap.toArray,args:=#[] }] w:=fun a ha=>by
 show Leaves P fn a.tmps R a.defers (.panicking ch) w
 rw[ha.defers]
 refine leaves_cons (by simp) (by rw[invoke_fn hF];simp) (hc.mono fun e u' w' h=>?_)
 obtain⟨⟨v,rfl⟩,h2,h3⟩:=h
 simp only[h2]
 exact h3 a ha
theorem finD_ret0 (h:∀a:Act,Rep n f [] a→∃v,(results fn a.tmps).run P w=.ok v w∧R (.returned v) w):finD P n fn R .ret f [] w:=fun a ha=>by
 show Leaves P fn a.tmps R a.defers .returning w
 rw[ha.defers]
 exact h a ha
theorem res_cell1{t:Tmp}{T:TypeId}{A:Addr}{v:Value}{a:Act}{ds:List Deferred} (ha:Rep n f ds a) (hr:fn.results=#[.cell t T]) (hA:f t=.pointer (some A)) (hv:(loadVar T A).run P w=.ok v w):(results fn a.tmps).run P w=.ok v w:=by
 simp[results,hr,ha.get,hA,asAddr,hv]
theorem res_cell2 {t t':Tmp}{T T':TypeId}{A A':Addr}{v v':Value}{a:Act}{ds:List Deferred} (ha:Rep n f ds a) (hr:fn.results=#[.cell t T,.cell t' T']) (hA:f t=.pointer (some A)) (hA':f t'=.pointer (some A')) (hv:(loadVar T A).run P w=.ok v w) (hv':(loadVar T' A').run P w=.ok v' w):(results fn a.tmps).run P w=.ok (.tuple #[v,v']) w:=by
 simp[results,hr,ha.get,hA,hA',asAddr,hv,hv']
theorem callsD_plain{F:FuncId}{c:Code}{vs:List Value}{u:FrameMode} (hf:P.funcs[F]?=some fn) (hb:fn.body=some c) (hn:fn.ntmps=n) (hv:Nat.ble vs.length n=true)
  (h:CW P c (fin P n fn R) n (ini vs) [] w):CallsD P F vs.toArray u w fun e u' w'=>u'=u∧R e w':=
 callsD_of_wp hf hb (Code.wp_mono (fun e a w ⟨f,ds,hr,hq⟩=>hq a hr) (h.out _ (by rw[hn];exact rep_ini (by simpa using hv))))
end defers
section recover
variable{P:Program}{n:Nat}{w:World}{f:Slots}{ds:List Deferred}{cs:List Frame}
abbrev PostS:=Exit→Slots→List Deferred→List Frame→World→Prop
def liftS (n:Nat) (Q:PostS):Exit→Act→List Frame→World→Prop:=fun e a cs w=>∃f ds,Rep n f ds a∧Q e f ds cs w
structure CS (P:Program) (c:Code) (Q:PostS) (n:Nat) (f:Slots) (ds:List Deferred) (cs:List Frame) (w:World):Prop where
 out:∀a,Rep n f ds a→c.wpS P (liftS n Q) a cs w
theorem wpS_mono {Q Q':Exit→Act→List Frame→World→Prop}{c:Code}{a:Act} (hq:∀e a cs w,Q e a cs w→Q' e a cs w) (h:c.wpS P Q a cs w):c.wpS P Q' a cs w:=
 fun b k hb hr=>let ⟨e,a',cs',w',q,r⟩:=h b k hb hr;⟨e,a',cs',w',hq _ _ _ _ q,r⟩
theorem CS.of{Q:PostS}{c:Code} (h:CW P c (fun e f ds w=>Q e f ds cs w) n f ds w):CS P c Q n f ds cs w:=
 ⟨fun a ha=>wpS_of_wp (Code.wp_mono (fun e a w ⟨f,ds,hr,hq⟩=>⟨f,ds,hr,hq⟩) (h.out a ha))⟩
def thenS (K:Slots→List Deferred→List Frame→World→Prop) (Q:PostS):PostS
 | .normal,f,ds,cs,w=>K f ds cs w
 | .exit id,f,ds,cs,w=>Q (.exit id) f ds cs w
 | .goto l,f,ds,cs,w=>Q (.goto l) f ds cs w
 | .ret,f,ds,cs,w=>Q .ret f ds cs w
 | .panic ch,f,ds,cs,w=>Q (.panic ch) f ds cs w
 | .outgrown,f,ds,cs,w=>Q .outgrown f ds cs w
theorem CS.seq{Q:PostS}{x y:Code} (h:CS P x (thenS (CS P y Q n) Q) n f ds cs w):CS P (.seq x y) Q n f ds cs w:=
 ⟨fun a ha=>wpS_seq (wpS_mono (fun e a cs w ⟨f,ds,hr,hq⟩=>by
  cases e with
  | normal=>exact(show CS P y Q n f ds cs w from hq).out a hr
  | exit id=>exact⟨f,ds,hr,hq⟩
  | goto l=>exact⟨f,ds,hr,hq⟩
  | ret=>exact⟨f,ds,hr,hq⟩
  | panic ch=>exact⟨f,ds,hr,hq⟩
  | outgrown=>exact⟨f,ds,hr,hq⟩) (h.out a ha))⟩
theorem CS.recover{Q:PostS}{id d1 d2:Nat}{ats:Array TypeId}{t1 t2:TypeId}{p1 p2:String}{a1 a2:Array Edge}{v:Value}{cs':List Frame} (h1:Nat.blt d1 n=true) (h2:Nat.blt d2 n=true)
  (hrec:recoverD cs=some (v,cs')∨recoverD cs=none∧v=.nilIface∧cs'=cs) (h:Q .normal (upd (upd f d1 v) d2 v) ds cs' w) :
  CS P (.region id #[⟨some d1,.call { callee:=.builtin .recover,args:=#[],argTypes:=ats },t1,p1,a1,none⟩,⟨some d2,.assign (.tmp d1),t2,p2,a2,none⟩] false) Q n f ds cs w:=
 ⟨fun a ha=>wpS_region (by
  have e1:(execOp a.eval ⟨some d1,.call { callee:=.builtin .recover,args:=#[],argTypes:=ats },t1,p1,a1,none⟩).run P w=.ok .recover w:=by
   simp[execOp,resolve,invoke,builtin]
  have hp:=ha.put h1 v
  have e2:(execOp (a.put (some d1) v).eval ⟨some d2,.assign (.tmp d1),t2,p2,a2,none⟩).run P w=.ok (.value v) w:=by
   rw[hp.eval]
   have:ev (upd f d1 v) (.tmp d1)=v:=upd_same f d1 v
   simp[execOp,this]
  have hfin:liftS n Q .normal ((a.put (some d1) v).put (some d2) v) cs' w:=⟨_,_,hp.put h2 v,h⟩
  have hr2:List.range 2=[0,1]:=rfl
  rcases hrec with hrec | ⟨hrec,rfl,rfl⟩
  ·simp[wpOpsS,hr2,Region.wanted,e1,hrec,e2,Oper.upon,hfin]
  ·simp[wpOpsS,hr2,Region.wanted,e1,hrec,e2,Oper.upon,hfin])⟩
def finS (P:Program) (n:Nat) (fn:Func) (c0:Frame) (cs:List Frame) (R:Ending→FrameMode→World→Prop):PostS:=fun e f ds cs' w=>∀a,Rep n f ds a→bodyPostS P fn c0 cs R e a cs' w
theorem callsD_rec{F:FuncId}{fn:Func}{c:Code}{vs:List Value}{u:FrameMode}{R:Ending→FrameMode→World→Prop} (hf:P.funcs[F]?=some fn) (hb:fn.body=some c) (hn:fn.ntmps=n) (hv:Nat.ble vs.length n=true)
  (h:∀(c0:Frame) (cs:List Frame),c0.mode=u→CS P c (finS P n fn c0 cs R) n (ini vs) [] (c0::cs) w):CallsD P F vs.toArray u w R:=
 callsD_of_wpS hf hb fun c0 cs hu=>wpS_mono (fun e a cs w ⟨f,ds,hr,hq⟩=>hq a hr) ((h c0 cs hu).out _ (by rw[hn];exact rep_ini (by simpa using hv)))
theorem finS_end0{fn:Func}{c0:Frame}{R:Ending→FrameMode→World→Prop}{u':FrameMode} (hr:fn.results=#[]) (h:R (.returned (.tuple #[])) u' w):finS P n fn c0 cs R .normal f [] ({ c0 with mode:=u' }::cs) w:=
 fun a ha=>⟨ha.defers,u',rfl,_,results_none hr _ _ _,h⟩
end recover
section qtail
variable{P:Program}{ops:Array Oper}{md:Region.Mode}{C:World→Prop}
def wpAnyH (P:Program) (md:Region.Mode) (ops:Array Oper) (C:World→Prop) (n:Nat) (L:Array Bool→Act→Prop):Nat→Array Bool→Act→Prop
 | 0,listed,a=>L listed a
 | f+1,listed,a=>Region.ready md ops listed≠[]∧∀i∈Region.ready md ops listed,i<n∧qOp P ops C i (wpAnyH P md ops C n L f (listed.setIfInBounds i true)) a
theorem wpAnyH.out{n g:Nat}{L:Array Bool→Act→Prop}{Q':Exit→Act→World→Prop} (hL:∀listed a w,C w→L listed a→wpAny P md ops Q' g listed a w) :
  ∀(f:Nat) (listed:Array Bool) (a:Act) (w:World),C w→wpAnyH P md ops C n L f listed a→wpAny P md ops Q' (f+g) listed a w
 | 0,listed,a,w,hw,h=>by rw[Nat.zero_add];exact hL _ _ _ hw h
 | f+1,listed,a,w,hw,h=>by
  rw[show f+1+g=(f+g)+1 by omega]
  exact⟨fun h0=>absurd h0 h.1,fun i hi=>wpOp_of_qOp hw (fun a' w' hw' h'=>wpAnyH.out hL f _ a' w' hw' h') (h.2 i hi).2⟩
theorem wpAnyH.first{n i:Nat}{oi:Oper}{v:Value}{L:Array Bool→Act→Prop} (hi:ops[i]?=some oi) (hsel:∀(j:Nat) (o:Oper) cs b,ops[j]?=some o→o.op≠.select cs b)
  (hs:Region.sinkB md ops n=true) (hc:Region.chainB md ops n=true) (hn:n<ops.size) (hin:i<n)
  (hdone:∀listed a,L listed a→∀j∈Region.ready md ops listed,n≤j) :
  ∀(f:Nat) (listed:Array Bool) (a:Act),HeadInv md ops n listed→
   (∀j oj,ops[j]?=some oj→j≠i→listed.getD j true=false→(∀e∈oj.after,Region.binds md e=true→e.on≠i)→oi.apart ops oj=true)→
   i∈Region.ready md ops listed→YieldsIn P ops C oi v a→
   wpAnyH P md ops C n L f (listed.setIfInBounds i true) (a.put oi.dst v)→wpAnyH P md ops C n L (f+1) listed a:=by
 intro f
 induction f with
 | zero=>
  intro listed a inv _ hr hy H
  refine⟨fun h=>(by rw[h] at hr;cases hr),fun j hj=>?_⟩
  have hjn:j<n:=by
   rcases Nat.lt_or_ge j n with h | h
   ·exact h
   ·exact absurd hj (tail_waits hs hc hn inv _ i rfl hin (mem_ready.1 hr).1 j h)
  refine⟨hjn,?_⟩
  by_cases hji:j=i
  ·subst hji;exact hy.qOp hi H
  ·have:=hdone _ _ H j (ready_mono hj hji)
   omega
 | succ f ih=>
  intro listed a inv hfree hr hy H
  have hun:=(mem_ready.1 hr).1
  refine⟨fun h=>(by rw[h] at hr;cases hr),fun j hj=>?_⟩
  have hjn:j<n:=by
   rcases Nat.lt_or_ge j n with h | h
   ·exact h
   ·exact absurd hj (tail_waits hs hc hn inv _ i rfl hin hun j h)
  refine⟨hjn,?_⟩
  by_cases hji:j=i
  ·subst hji;exact hy.qOp hi H
  ·have h1:=(H.2 j (ready_mono hj hji)).2
   have ob:=mem_ready.1 hj
   obtain⟨hjun,oj,hoj,hall⟩:=ob
   have hnot:∀e∈oj.after,Region.binds md e=true→e.on≠i:=fun e he hb heq=>by
    have h1:=hall e he hb
    rw[heq,getD_both hun] at h1
    cases h1
   have h2:=qOp_put hoj (hfree j oj hoj hji hjun hnot) (fun cs b=>hsel i oi cs b hi) (fun cs b=>hsel j oj cs b hoj) hy h1
   have hfree':∀k ok,ops[k]?=some ok→k≠i→(listed.setIfInBounds j true).getD k true=false→
     (∀e∈ok.after,Region.binds md e=true→e.on≠i)→oi.apart ops ok=true:=fun k ok hk hki hun' hno=>by
    refine hfree k ok hk hki ?_ hno
    by_cases hjk:j=k
    ·subst hjk;exact hjun
    ·rw[getD_set_ne true hjk] at hun';exact hun'
   refine qOp_mono (fun a' h3=>ih (listed.setIfInBounds j true) a' (inv.set hj hjn) hfree' (ready_mono hr (Ne.symm hji)) h3.1 ?_) h2
   rw[Array.setIfInBounds_comm _ _ hji]
   exact h3.2
theorem wpAnyH.lex{n g:Nat}{Lq:Act→Prop} (hsel:Region.noSelect ops=true) (hs:Region.sinkB md ops n=true) (hc:Region.chainB md ops n=true) (hn:n<ops.size) :
  ∀(l:List Oper) (k:Nat) (listed:Array Bool) (a:Act),(∀j,j<l.length→l[j]?=ops[k+j]?)→k+l.length=n→HeadInv md ops n listed→
  Region.lexHead md ops g l.length k listed=true→wpQuiet P ops C Lq l a→
  wpAnyH P md ops C n (fun listed' a'=>Region.seqB md ops g n listed'=true∧Lq a') l.length listed a
 | [],k,listed,a,_,hk,_,hB,h=>by
  have:k=n:=by simpa using hk
  subst this
  exact⟨by simpa[Region.lexHead] using hB,h⟩
 | o::l,k,listed,a,hl,hk,inv,hB,h=>by
  have h0:ops[k]?=some o:=by simpa using(hl 0 (by simp)).symm
  simp only[List.length_cons,Region.lexHead,Bool.and_eq_true] at hB
  obtain⟨⟨hr,hf⟩,hB'⟩:=hB
  have hkn:k<n:=by simp only[List.length_cons] at hk;omega
  have hr':k∈Region.ready md ops listed:=by simpa using hr
  have hst:qOp P ops C k (wpQuiet P ops C Lq l) a:=by unfold qOp;simp only[h0];exact h
  have ob:=yieldsIn_of_qOp h0 hst
  obtain⟨v,hy,hK⟩:=ob
  exact wpAnyH.first h0 (Region.noSelect_spec hsel) hs hc hn hkn (fun listed' a' hL=>seqB_ready hL.1) l.length listed a inv (Region.free_spec h0 hf) hr' hy
   (wpAnyH.lex hsel hs hc hn l (k+1) _ _ (fun j hj=>by have:=hl (j+1) (by simp;omega);simpa[Nat.add_assoc,Nat.add_comm 1 j] using this) (by simp only[List.length_cons] at hk;omega) (inv.set hr' hkn) hB' hK)
theorem wp_region_quiet_tail{id:Nat}{Q:Exit→Act→World→Prop}{a:Act}{w:World}{l1 l2:List Oper} (n:Nat) (hm:P.follows .mixedOrders=true) (hl:l1.length=n) (hB:Region.lexTailB .any (l1++l2).toArray n=true)
  (hC:C w.drew) (h:wpQuiet P (l1++l2).toArray C (fun a'=>∀w',C w'→wpList P (l1++l2).toArray Q l2 a' w') l1 a):(Code.region id (l1++l2).toArray true).wp P Q a w:=by
 simp only[Region.lexTailB,Bool.and_eq_true,decide_eq_true_eq] at hB
 obtain⟨⟨⟨⟨hsel,hn⟩,hs⟩,hc⟩,hlex⟩:=hB
 have hdl:l2.length=(l1++l2).toArray.size - n:=by simp;omega
 have inv0:HeadInv .any (l1++l2).toArray n (Array.replicate (l1++l2).toArray.size false):=
  ⟨by simp,fun j oj _ hl=>(by rw[getD_replicate_false] at hl;cases hl),fun t _ ht=>getD_in (by simpa using ht) (getD_replicate_false _ _)⟩
 have H:=wpAnyH.lex (md:=.any) (g:=(l1++l2).toArray.size - n) hsel hs hc hn l1 0 _ a (fun j hj=>by
  simp[List.getElem?_append_left hj]) (by simpa using hl) inv0 (by rw[hl];exact hlex) h
 refine wp_region_any hm ?_
 have:=wpAnyH.out (Q':=Q) (g:=(l1++l2).toArray.size - n) (fun listed a' w' hw' hL=>by
  have:=wpAny_of_seq (md:=.any) (Q':=Q) l2 n listed a' w' (fun j=>by rw[←hl];simp[List.getElem?_append_right (Nat.le_add_right l1.length j)]) (by rw[hdl];exact hL.1) (hL.2 w' hw')
  rwa [hdl] at this) _ _ _ _ hC H
 rw[hl,show n+((l1++l2).toArray.size - n)=(l1++l2).toArray.size by omega] at this
 exact this
end qtail
section
variable{P:Program}{n:Nat}{f:Slots}{ds:List Deferred}{w w0:World}{S:List Nat}{L:OL}
theorem CW.quietT{Q:Post}{id:Nat}{l1 l2 l:List Oper} (k:Nat) (he:l=l1++l2) (hm:P.follows .mixedOrders=true) (hl:l1.length=k) (hB:Region.lexTailB .any l.toArray k=true) (hs:Step S L w0 w)
  (h:QL P l.toArray S L w0 (fun f'=>∀w',Step S L w0 w'→WL P l.toArray Q n l2 f' ds w') n l1 f ds):CW P (.region id l.toArray true) Q n f ds w:=
 ⟨fun a ha=>by
  subst he
  refine wp_region_quiet_tail (C:=fun w=>Step S L w0 w) k hm hl hB hs.drew ?_
  have hmono:∀(l':List Oper) (a:Act),wpQuiet P (l1++l2).toArray (fun w=>Step S L w0 w) (fun a'=>∃f',Rep n f' ds a'∧∀w',Step S L w0 w'→WL P (l1++l2).toArray Q n l2 f' ds w') l' a→wpQuiet P (l1++l2).toArray (fun w=>Step S L w0 w) (fun a'=>∀w',Step S L w0 w'→wpList P (l1++l2).toArray (lift n Q) l2 a' w') l' a:=by
   intro l'
   induction l' with
   | nil=>exact fun a ⟨f',hr,hq⟩ w' hw'=>(hq w' hw').out a hr
   | cons o l' ih=>
    intro a hh
    simp only[wpQuiet] at hh⊢
    split
    ·rename_i hw;rw[if_pos hw] at hh;exact Oper.quiet_mono ih hh
    ·rename_i hw;rw[if_neg hw] at hh;exact ih _ hh
  exact hmono _ _ (h.out a ha)⟩
end
def badCh (c:UInt8):Bool:=decide (c=0∨c=47)
def isName (s:(List UInt8)):Bool:=decide (1≤s.length∧s.length≤64∧s≠[46]∧s≠[46,46]) && !s.any badCh
structure Ent where
 name:(List UInt8)
 kind:Int
 dig:(List UInt8)
 deriving DecidableEq
def Ent.cells (x:Ent):List Value:=str x.name::.int .i64 x.kind::u8s x.dig
def Ent.ok (x:Ent):Prop:=x.dig.length=32∧-9223372036854775808≤x.kind∧x.kind≤9223372036854775807∧x.name.length≤9223372036854775807
def rows (l:List Ent):List Value:=l.flatMap Ent.cells
def Oks (l:List Ent):Prop:=∀x∈l,x.ok
theorem Ent.cells_len{x:Ent} (h:x.ok):x.cells.length=34:=by simp[Ent.cells,u8s,h.1]
theorem rows_len:∀{l:List Ent},Oks l→(rows l).length=l.length*34
 | [],_=>rfl
 | x::l,h=>by
  have h1:=Ent.cells_len (h x (by simp))
  have h2:=rows_len (l:=l) (fun y hy=>h y (by simp[hy]))
  simp only[rows,List.flatMap_cons,List.length_append,List.length_cons] at *
  omega
theorem rows_append (a b:List Ent):rows (a++b)=rows a++rows b:=by simp[rows]
theorem rows_one (x:Ent):rows [x]=x.cells:=by simp[rows]
theorem Oks.take{l:List Ent} (h:Oks l) (k:Nat):Oks (l.take k):=fun x hx=>h x (List.mem_of_mem_take hx)
theorem Oks.append{a b:List Ent} (h:Oks a) (h':Oks b):Oks (a++b):=fun x hx=>by
 rcases List.mem_append.1 hx with hx | hx
 ·exact h x hx
 ·exact h' x hx
theorem Oks.one{x:Ent} (h:x.ok):Oks [x]:=fun y hy=>by simp at hy;subst hy;exact h
theorem Oks.nil:Oks []:=fun y hy=>by cases hy
theorem Oks.get{l:List Ent} (h:Oks l){k:Nat} (hk:k<l.length):(l[k]).ok:=h _ (List.getElem_mem hk)
theorem Ent.cells1 (x:Ent):Cells1 x.cells:=fun v hv=>by
 simp only[Ent.cells,List.mem_cons] at hv
 rcases hv with rfl | rfl | hv
 ·rfl
 ·rfl
 ·exact Cells1.u8s _ v hv
theorem rows_split{l:List Ent} (h:Oks l){k:Nat} (hk:k<l.length):rows l=rows (l.take k)++((l[k]).cells++rows (l.drop (k+1))):=by
 have e:l=l.take k++l[k]::l.drop (k+1):=by rw[←List.drop_eq_getElem_cons hk,List.take_append_drop]
 have e2:rows (l.take k++l[k]::l.drop (k+1))=rows (l.take k)++((l[k]).cells++rows (l.drop (k+1))):=by rw[rows_append];rfl
 rw[←e2,←e]
theorem At.ent{w:World}{b off:Nat}{l:List Ent} (ha:At w b off (rows l)) (h:Oks l){k:Nat} (hk:k<l.length):At w b (off+k*34) (l[k]).cells:=by
 rw[rows_split h hk] at ha
 have:=ha.right.left
 rw[rows_len (h.take k),List.length_take,Nat.min_eq_left (Nat.le_of_lt hk)] at this
 exact this
def Es (w:World) (v:Value) (l:List Ent):Prop:=Sl w 34 v l.length (rows l)∧Oks l∧l.length≤9223372036854775807
theorem Es.step0{L:OL}{w w':World}{v:Value}{l:List Ent} (h:Es w v l) (hs:Step [] L w w'):Es w' v l:=⟨h.1.step0 hs,h.2⟩
theorem Es.step{S:List Nat}{L:OL}{w w':World}{v:Value}{l:List Ent} (h:Es w v l) (hs:Step S L w w') (hS:Outside v S):Es w' v l:=⟨h.1.step hs hS,h.2⟩
theorem Es.cases{w:World}{v:Value}{l:List Ent} (h:Es w v l):(∃a c,v=.slice a 0 c∧l=[])∨∃b off c,v=.slice (some ⟨b,off,none⟩) l.length c∧At w b off (rows l):=by
 obtain⟨⟨hl,⟨a,c,rfl,h0⟩ | h⟩,ho,_⟩:=h
 ·exact .inl ⟨a,c,by rw[h0],List.eq_nil_of_length_eq_zero h0⟩
 ·exact .inr h
def Ret0 (v:Value) (w:World):Ending→World→Prop:=fun e w'=>e=.returned v∧Step [] [] w w'
theorem Step.callE{S:List Nat}{L:OL}{w w' w'':World} (h:Step S L w w') (hc:Step [] [] w' w''):Step S L w w'':=h.call0 hc
theorem bytesLess_gt:∀a b:U8,(!(Op.bytesLess a b || a == b))=Op.bytesLess b a
 | [],[]=>rfl
 | [],b::y=>by simp[Op.bytesLess]
 | a::x,[]=>by simp[Op.bytesLess]
 | a::x,b::y=>by
  have ih:=bytesLess_gt x y
  by_cases h:a=b
  ·subst h
   simp only[Op.bytesLess,UInt8.lt_irrefl,decide_false,Bool.false_or,beq_self_eq_true,Bool.true_and,←ih]
   simp
  ·have h':¬b=a:=fun e=>h e.symm
   by_cases hlt:a<b
   ·have:¬b<a:=UInt8.lt_asymm hlt
    simp[Op.bytesLess,h,h',hlt,this]
   ·have:b<a:=by rcases UInt8.lt_or_lt_of_ne h with h1 | h1;exact absurd h1 hlt;exact h1
    simp[Op.bytesLess,h,h',hlt,this]
def wrongE (k:Int) (n a:(List UInt8)):Int:=if (k=2∨k=1)∧isName n=true∧Op.bytesLess a n=true then 0 else 51
def errE:(List UInt8)→List Ent→Int
 | _,[]=>0
 | a,x::l=>if wrongE x.kind x.name a=0 then errE x.name l else wrongE x.kind x.name a
def checkE (l:List Ent):Int:=if l.length > 1024 then 2 else errE [] l
def bAt (l:(List UInt8)) (k:Nat):Nat:=(l.getD k 0).toNat
theorem get_bAt (l:U8) (k:Nat):((ByteArray.mk ⟨l⟩).get! k).toNat=bAt l k:=by
 unfold bAt
 show((⟨l⟩:Array UInt8)[k]!).toNat=_
 rw[Array.getElem!_eq_getD]
 simp[Array.getD_eq_getD_getElem?,List.getD_eq_getElem?_getD]
 rfl
theorem dec_ascii{l:U8}{i:Nat} (h:bAt l i<128):Utf8.decode ⟨⟨l⟩⟩ i=(bAt l i,1):=by
 unfold Utf8.decode
 simp only[get_bAt,Nat.add_zero]
 rw[if_pos h]
theorem dec_wide{l:U8}{i:Nat} (hi:i<l.length) (h:128≤bAt l i):128≤(Utf8.decode ⟨⟨l⟩⟩ i).1∧(Utf8.decode ⟨⟨l⟩⟩ i).1≤1114111∧1≤(Utf8.decode ⟨⟨l⟩⟩ i).2∧i+(Utf8.decode ⟨⟨l⟩⟩ i).2≤l.length∧∀k,k<(Utf8.decode ⟨⟨l⟩⟩ i).2→128≤bAt l (i+k):=by
 have hsz:(ByteArray.mk ⟨l⟩).size=l.length:=rfl
 have one:∀k,k<1→128≤bAt l (i+k):=fun k hk=>by obtain rfl:k=0:=(by omega);exact h
 have hb:=(l.getD i 0).toNat_lt
 have hb1:=(l.getD (i+1) 0).toNat_lt
 have hb2:=(l.getD (i+2) 0).toNat_lt
 have hb3:=(l.getD (i+3) 0).toNat_lt
 unfold Utf8.decode
 simp only[get_bAt,hsz,Nat.add_zero,Utf8.runeError,Utf8.valid]
 unfold bAt at *
 rw[if_neg (by omega)]
 split
 ·rename_i h1
  simp only[Bool.and_eq_true,beq_iff_eq,decide_eq_true_eq] at h1
  split
  ·refine⟨by omega,by omega,by omega,by omega,fun k hk=>?_⟩
   rcases (by omega:k=0∨k=1) with rfl | rfl
   ·exact h
   ·omega
  ·exact⟨by decide,by decide,by decide,by omega,one⟩
 split
 ·rename_i h1
  simp only[Bool.and_eq_true,beq_iff_eq,decide_eq_true_eq] at h1
  split
  ·rename_i h2
   simp only[Bool.and_eq_true,decide_eq_true_eq] at h2
   refine⟨by omega,by omega,by omega,by omega,fun k hk=>?_⟩
   rcases (by omega:k=0∨k=1∨k=2) with rfl | rfl | rfl
   ·exact h
   ·omega
   ·omega
  ·exact⟨by decide,by decide,by decide,by omega,one⟩
 split
 ·rename_i h1
  simp only[Bool.and_eq_true,beq_iff_eq,decide_eq_true_eq] at h1
  split
  ·rename_i h2
   simp only[Bool.and_eq_true,Bool.or_eq_true,decide_eq_true_eq] at h2
   refine⟨by omega,by omega,by omega,by omega,fun k hk=>?_⟩
   rcases (by omega:k=0∨k=1∨k=2∨k=3) with rfl | rfl | rfl | rfl
   ·exact h
   ·omega
   ·omega
   ·omega
  ·exact⟨by decide,by decide,by decide,by omega,one⟩
 ·exact⟨by decide,by decide,by decide,by omega,one⟩
section
variable{P:Program}{ops:Array Oper}{Q:Post}{n:Nat}{rest:List Oper}{f:Slots}{ds:List Deferred}{w w0:World}{ty:TypeId}{pos:String}{af:Array Edge}{S:List Nat}{L:OL}{x:Operand}{T:TypeId}
def putO (w:World) (b:Nat) (o:Obj):World:={ w with heap:=w.heap.setIfInBounds b o }
theorem WL.rangeS{d:Nat}{s:U8} (ht:P.underlying T=some .string) (hx:ev f x=str s) (hd:Nat.blt d n=true) (hs:Step S L w0 w)
  (h:∀b w',Step S ((b,.stringIter ⟨⟨s⟩⟩ 0)::L) w0 w'→WL P ops Q n rest (upd f d (pt b)) ds w'):WL P ops Q n (⟨some d,.range T x,ty,pos,af,none⟩::rest) f ds w:=by
 refine WL.val hd (v:=.pointer (some ⟨w.heap.size,0,none⟩)) (w':=w.alloc (.stringIter ⟨⟨s⟩⟩ 0)) ?_ (h _ _ (hs.alloc _))
 simp[execOp,hx,str,Instr.range,run_underlying ht]
theorem WL.nextEnd{d b p:Nat}{s:U8} (hx:ev f x=pt b) (hd:Nat.blt d n=true) (hs:Step S ((b,.stringIter ⟨⟨s⟩⟩ p)::L) w0 w) (hp:s.length≤p)
  (h:WL P ops Q n rest (upd f d (.tuple #[.bool false])) ds w):WL P ops Q n (⟨some d,.next x true,ty,pos,af,none⟩::rest) f ds w:=by
 refine WL.val hd (v:=.tuple #[.bool false]) (w':=w) ?_ h
 have hg:(getObj b).run P w=.ok (.stringIter ⟨⟨s⟩⟩ p) w:=by simp[getObj,Sem.run,hs.hd]
 have hsz:¬p<(ByteArray.mk ⟨s⟩).size:=by show ¬p<s.length;omega
 simp[execOp,hx,Instr.next,hg,hsz]
theorem Step.setObj{b:Nat}{o:Obj} (h:Step S ((b,o)::L) w0 w) (o':Obj):Step S ((b,o')::L) w0 (putO w b o'):=by
 have hb:=h.hd
 have hc:Step ([(b,o)].map (·.1)) [(b,o')] w (putO w b o'):=by
  have hlt:=lt_of_get hb
  refine⟨⟨rfl,rfl,rfl,by simp[putO],fun k hk hn=>?_,Nat.le_refl _⟩,by simp,?_,by simp⟩
  ·have:k≠b:=by simpa using hn
   show(w.heap.setIfInBounds b o')[k]?=_
   rw[Array.getElem?_setIfInBounds_ne (by omega)]
  ·intro p hp
   simp at hp
   subst hp
   show(w.heap.setIfInBounds b o')[b]?=_
   simp[hlt]
 exact Step.call (L1:=[(b,o)]) h hc
theorem WL.nextS{d b p:Nat}{s:U8}{c wd:Nat} (hx:ev f x=pt b) (hd:Nat.blt d n=true) (hs:Step S ((b,.stringIter ⟨⟨s⟩⟩ p)::L) w0 w) (hp:p<s.length) (hdec:Utf8.decode ⟨⟨s⟩⟩ p=(c,wd))
  (h:∀w',Step S ((b,.stringIter ⟨⟨s⟩⟩ (p+wd))::L) w0 w'→WL P ops Q n rest (upd f d (.tuple #[.bool true,.int .i64 p,.int .i32 c])) ds w'):WL P ops Q n (⟨some d,.next x true,ty,pos,af,none⟩::rest) f ds w:=by
 refine WL.val hd (v:=.tuple #[.bool true,.int .i64 p,.int .i32 c]) (w':=putO w b (.stringIter ⟨⟨s⟩⟩ (p+wd))) ?_ (h _ (hs.setObj _))
 have hg:(getObj b).run P w=.ok (.stringIter ⟨⟨s⟩⟩ p) w:=by simp[getObj,Sem.run,hs.hd]
 have hst:(setObj b (.stringIter ⟨⟨s⟩⟩ (p+wd))).run P w=.ok () (putO w b (.stringIter ⟨⟨s⟩⟩ (p+wd))):=by simp[setObj,Sem.run,hs.hd,putO]
 have hsz:p<(ByteArray.mk ⟨s⟩).size:=hp
 simp[execOp,hx,Instr.next,hg,hsz,hdec,hst,goInt]
theorem CW.scope{c:Code} (h:CW P c (fun e f ds w=>match e with | .goto _=>False | e=>Q e f ds w) n f ds w):CW P (.scope c) Q n f ds w:=
 ⟨fun a ha=>wp_scope_straight (Code.wp_mono (fun e a w ⟨f,ds,hr,hq⟩=>by
  cases e with
  | goto l=>exact hq.elim
  | normal=>exact⟨f,ds,hr,hq⟩
  | exit id=>exact⟨f,ds,hr,hq⟩
  | ret=>exact⟨f,ds,hr,hq⟩
  | panic ch=>exact⟨f,ds,hr,hq⟩
  | outgrown=>exact⟨f,ds,hr,hq⟩) (h.out a ha))⟩
end
end Go.Gx
namespace Go.Gx
open Go.Proofs List
theorem run_i32Str{P:Program}{f:Slots}{w:World}{d:Option Tmp}{ty:TypeId}{pos:String}{af:Array Edge}{x:Operand}{T T':TypeId}{c:Int} (hs:P.underlying T=some (.int .i32)) (ht:P.underlying T'=some .string) (hx:ev f x=.int .i32 c) :
  (execOp (ev f) ⟨d,.convert T T' x,ty,pos,af,none⟩).run P w=.ok (.value (str (Utf8.encode c).data.toList)) w:=by
 simp[execOp,hx,convert,run_underlying hs,run_underlying ht,str,Conv.intToString]
theorem enc_wide{c:Nat} (h:128≤c):2≤(Utf8.encode c).data.toList.length∧(Utf8.encode c).data.toList.length≤4∧∀b∈(Utf8.encode c).data.toList,128≤b.toNat:=by
 have hb:∀(k:Nat),128≤k→k<256→128≤(UInt8.ofNat k).toNat:=fun k h1 h2=>by rw[UInt8.toNat_ofNat_of_lt' h2];exact h1
 obtain⟨u,hu,hu1,hu2⟩:∃u:Nat,(if Utf8.valid (c:Int) then ((c:Int)).toNat else Utf8.runeError)=u∧128≤u∧u≤1114111:=by
  by_cases hv:Utf8.valid (c:Int)=true
  ·refine⟨c,by rw[if_pos hv];simp,h,?_⟩
   simp only[Utf8.valid,Bool.or_eq_true,Bool.and_eq_true,decide_eq_true_eq] at hv
   omega
  ·exact⟨65533,by rw[if_neg hv];rfl,by decide,by decide⟩
 unfold Utf8.encode
 simp only[hu]
 rw[if_neg (by omega)]
 split
 ·refine⟨by simp,by simp,fun b hb'=>?_⟩
  simp only[mem_cons,not_mem_nil,or_false] at hb'
  rcases hb' with rfl | rfl <;> exact hb _ (by omega) (by omega)
 split
 ·refine⟨by simp,by simp,fun b hb'=>?_⟩
  simp only[mem_cons,not_mem_nil,or_false] at hb'
  rcases hb' with rfl | rfl | rfl <;> exact hb _ (by omega) (by omega)
 ·refine⟨by simp,by simp,fun b hb'=>?_⟩
  simp only[mem_cons,not_mem_nil,or_false] at hb'
  rcases hb' with rfl | rfl | rfl | rfl <;> exact hb _ (by omega) (by omega)
theorem vr_spec (c:Int) (w:World):CP 209 #[.int .i32 c] w (Ret0 (.bool (Lib.validRune c)) w):=(Tryz.utf8_ValidRune c w).mono fun e w' h=>⟨h.1,by rw[h.2];exact Step.refl w⟩
theorem ib_spec (s:U8) (c:Int) (w:World):CP 208 #[str s,.int .u8 c] w (Ret0 (.int .i64 (Lib.indexByte s c.toNat.toUInt8)) w):=(Tryz.strings_IndexByte ⟨⟨s⟩⟩ c w).mono fun e w' h=>⟨h.1,by rw[h.2];exact Step.refl w⟩
theorem ir_spec (s:U8) (c:Int) (w:World) (h0:0≤c) (h1:c<128):CP 204 #[str s,.int .i32 c] w (Ret0 (.int .i64 (Lib.indexByte s c.toNat.toUInt8)) w):=(Tryz.strings_IndexRune_ascii ⟨⟨s⟩⟩ c w h0 h1).mono fun e w' h=>⟨h.1,by rw[h.2];exact Step.refl w⟩
theorem idxRune_wide{c:Nat} (h:128≤c) (hc:c≤1114111) (w0:World):CP 204 #[str [0,47],.int .i32 c] w0 (Ret0 (.int .i64 (-1)) w0):=by
 have hs:Step [] [] w0 w0:=Step.refl w0
 by_cases hre:c=65533
 ·subst hre
  refine calls (n:=187) Tryz.func204 rfl rfl rfl ?_
  refine sr<|wA<|wZ<|cB<|sr<|wm<|iT<|wm<|wy<|wm<|wy<|lF<|pT<|wA<|wZ ?_
  refine cF rfl<|sr<|wm<|eT<|wA<|wZ<|cT rfl<|cq<|sr<|wm<|WL.rangeS u9 rfl rfl hs (fun b175 w hs=>?_)
  refine wZ<|cB<|CW.loop (fun m f w'=>∃p,p≤2∧m=2 - p∧Step [] [(b175,.stringIter ⟨⟨[0,47]⟩⟩ p)] w0 w'∧Holds f [(0,str [0,47]),(175,pt b175)]) (m:=2) ?_ ?_
  ·exact⟨0,by omega,by omega,hs,rfl,rfl,trivial⟩
  ·rintro m f w ⟨p,hp,rfl,hs,hf⟩
   have ob:=hf.chain
   obtain⟨g,rfl⟩:=ob
   by_cases hp2:p=2
   ·subst hp2
    refine sr<|WL.nextEnd rfl rfl hs (by decide) ?_
    refine wx rfl rfl<|wZ<|cq<|cF rfl<|CW.exit<|sr<|wA<|wZ<|CW.ret ?_
    refine fin_ret1 rfl ?_
    exact⟨rfl,hs.clear⟩
   ·have hb:bAt [0,47] p=0∨bAt [0,47] p=47:=by
     rcases (by omega:p=0∨p=1) with rfl | rfl
     ·exact .inl rfl
     ·exact .inr rfl
    have hp3:p<([0,47]:U8).length:=by show p<2;omega
    refine sr<|WL.nextS rfl rfl hs (by omega) (dec_ascii (by omega)) (fun w hs=>?_)
    refine wx rfl rfl<|wZ<|cq<|cT rfl<|ck<|cB<|sr<|wx rfl rfl<|wx rfl rfl<|wA<|wA<|wZ<|sr<|wm<|eF<|wZ ?_
    refine cF rfl<|ck<|(show _∧_ from⟨rfl,_,?_,p+1,by omega,rfl,hs,rfl,rfl,trivial⟩)
    omega
 ·by_cases hv:Lib.validRune c=true
  ·have ob:∃rs,(Utf8.encode c).data.toList=rs:=⟨_,rfl⟩
   obtain⟨rs,hrs⟩:=ob
   have henc:=enc_wide h
   rw[hrs] at henc
   obtain⟨hl2,hl4,hby⟩:=henc
   refine calls (n:=187) Tryz.func204 rfl rfl rfl ?_
   refine sr<|wA<|wZ<|cB<|sr<|wm<|iT<|wm<|wy<|wm<|wy<|lF<|pT<|wA<|wZ ?_
   refine cF rfl<|sr<|wm<|eF<|wA<|wZ<|cF rfl<|sr<|wm<|wE rfl (run_call en209 rfl rfl) (vr_spec c _) ?_
   rintro e w ⟨rfl,hq⟩
   refine⟨_,rfl,?_⟩
   replace hs:=hs.callE hq
   rw[hv]
   refine wN rfl<|wA<|wZ<|cF rfl<|CW.scope ?_
   refine sr<|wm<|wV (run_i32Str u21 u9 rfl)<|wA<|wZ ?_
   rw[hrs]
   refine sr<|wm<|wV (run_lenStr u9 rfl)<|wS ((rs.length - 1:Nat):Int)<|wA<|wZ<|sr<|wm<|wA<|wZ<|sr<|wA<|wZ ?_
   refine cq<|cB<|CW.loop (fun m f w'=>m=0∧Step [] [] w0 w'∧Holds f [(0,str [0,47]),(7,str rs),(8,.int .i64 (rs.length - 1:Nat)),(9,.int .i64 (rs.length - 1:Nat))]) (m:=0) ?_ ?_
   ·exact⟨rfl,hs,rfl,rfl,rfl,rfl,trivial⟩
   ·rintro m f w ⟨rfl,hs,hf⟩
    have ob:=hf.chain
    obtain⟨g,rfl⟩:=ob
    by_cases hl3:rs.length=2
    ·obtain⟨r0,r1,rfl⟩:∃r0 r1,rs=[r0,r1]:=by
      match rs,hl3 with
      | [r0,r1],_=>exact⟨r0,r1,rfl⟩
     have hge:=hby r1 (by simp)
     refine cq<|sr<|wm<|wm<|wV (run_lenStr u9 rfl)<|wV (run_bT (run_lss rfl rfl) (by show((1:Nat):Int)<((2:Nat):Int);decide))<|wZ<|cT rfl<|ck<|cB<|CW.scope ?_
     refine cq<|cq<|CW.quiet mixedP (by kernel_rfl) hs ?_
     refine qm<|qm<|qV (fun w hs=>run_strIdx u9 rfl rfl ((show([0,47]:U8)[1]?=some 47 from rfl)))<|qm<|qm<|qV (fun w hs=>run_strIdx u9 rfl rfl ((show [r0,r1][1]?=some r1 from rfl)))<|qV (fun w hs=>run_bT (run_neq rfl rfl) (by show ¬(((47:UInt8).toNat:Int)=_);have:(47:UInt8).toNat=47:=rfl;omega))<|QL.nil (fun w hs=>?_)
     refine cT rfl<|cq<|CW.quiet mixedP (by kernel_rfl) hs ?_
     refine qm<|qm<|qV (fun w hs=>run_add (c:=((2:Nat):Int)) rfl rfl (by omega) (by omega))<|qV (fun w hs=>run_sliceStr (lo:=2) (hi:=2) u9 rfl rfl rfl (Nat.le_refl 2) (Nat.le_refl 2))<|qm<|qm<|qV (fun w hs=>run_strIdx u9 rfl rfl ((show [r0,r1][1]?=some r1 from rfl)))<|QL.enter rfl (fun w=>run_call en208 rfl rfl) (fun w hs=>ib_spec [] _ _) ?_
     refine qA<|QL.nil (fun w hs=>?_)
     refine cq<|sr<|wm<|wV (run_bT (run_lss rfl rfl) (by show(-1:Int)<0;decide))<|wZ<|cT rfl<|sr<|wA<|wZ<|CW.ret ?_
     refine fin_ret1 rfl ?_
     exact⟨rfl,hs⟩
    ·refine cq<|sr<|wm<|wm<|wV (run_lenStr u9 rfl)<|wV (run_bF (run_lss rfl rfl) (by show ¬((rs.length - 1:Nat):Int)<((2:Nat):Int);omega))<|wZ<|cF rfl<|CW.exit<|cq<|sr<|wA<|wZ ?_
     refine CW.ret ?_
     refine fin_ret1 rfl ?_
     exact⟨rfl,hs⟩
  ·refine calls (n:=187) Tryz.func204 rfl rfl rfl ?_
   refine sr<|wA<|wZ<|cB<|sr<|wm<|iT<|wm<|wy<|wm<|wy<|lF<|pT<|wA<|wZ ?_
   refine cF rfl<|sr<|wm<|eF<|wA<|wZ<|cF rfl<|sr<|wm<|wE rfl (run_call en209 rfl rfl) (vr_spec c _) ?_
   rintro e w ⟨rfl,hq⟩
   refine⟨_,rfl,?_⟩
   replace hs:=hs.callE hq
   rw[show Lib.validRune c=false by simpa using hv]
   refine wN rfl<|wA<|wZ<|cT rfl<|sr<|wA<|wZ<|CW.ret ?_
   refine fin_ret1 rfl ?_
   exact⟨rfl,hs⟩
def NB (s:(List UInt8)) (p:Nat):Prop:=∀(k:Nat) (h:k<s.length),k<p→badCh s[k]=false
theorem NB.all{s:U8}{p:Nat} (h:NB s p) (hp:s.length≤p):s.any badCh=false:=by
 rw[any_eq_false]
 intro x hx
 have ob:=mem_iff_getElem.1 hx
 obtain⟨k,hk,rfl⟩:=ob
 simp[h k hk (by omega)]
theorem bAt_of{s:U8}{k:Nat} (h:k<s.length):bAt s k=(s[k]).toNat:=by simp[bAt,h]
theorem bad_iff (c:UInt8):badCh c=true↔c=0∨c=47:=by simp[badCh]
theorem ix2 (c:UInt8):(0≤Lib.indexByte [0,47] c)↔badCh c=true:=by
 rw[bad_iff]
 by_cases h0:c=0
 ·subst h0;decide
 ·by_cases h1:c=47
  ·subst h1;decide
  ·have e0:((0:UInt8) == c)=false:=by simpa using fun h=>h0 h.symm
   have e1:((47:UInt8) == c)=false:=by simpa using fun h=>h1 h.symm
   have:Lib.indexByte [0,47] c = -1:=by
    unfold Lib.indexByte Lib.indexByte
    rw[e0,e1]
    rfl
   rw[this]
   simp[h0,h1]
theorem sua_spec (n:Int) (w:World):CP 205 #[.int .i64 n] w (Ret0 (.bool (decide (8<n))) w):=(Tryz.strings_shouldUseASCIISet n w).mono fun e w' h=>⟨h.1,by rw[h.2];exact Step.refl w⟩
theorem idxAny_short{s:U8} (hl:s.length≤8) (w0:World):CP 203 #[str s,str [0,47]] w0 fun e w'=>∃r:Int,e=.returned (.int .i64 r)∧(0≤r↔s.any badCh=true)∧Step [] [] w0 w':=by
 have hs:Step [] [] w0 w0:=Step.refl w0
 refine calls (n:=55) Tryz.func203 rfl rfl rfl ?_
 refine sr<|wA<|wZ<|cq<|sr<|wm<|wV (run_bF (run_strEq rfl rfl) (by decide))<|wZ<|cF rfl<|ck<|cq<|cq ?_
 refine cr<|wm<|wV (run_lenStr u9 rfl)<|wV (run_bF (run_eql rfl rfl) (by show ¬((2:Nat):Int)=1;decide))<|wZ<|cF rfl<|ck<|cq<|sr<|wm<|wV (run_lenStr u9 rfl)<|wE rfl (run_call en205 rfl rfl) (sua_spec _ _) ?_
 rintro e w ⟨rfl,hq⟩
 refine⟨_,rfl,?_⟩
 replace hs:=hs.callE hq
 rw[decide_eq_false (by omega)]
 refine wZ<|cF rfl<|ck<|cq<|sr<|wm<|WL.rangeS u9 rfl rfl hs (fun b45 w hs=>?_)
 refine wZ<|cB<|CW.loop (fun m f w'=>∃p,p≤s.length∧m=s.length - p∧NB s p∧Step [] [(b45,.stringIter ⟨⟨s⟩⟩ p)] w0 w'∧Holds f [(0,str s),(1,str [0,47]),(45,pt b45)]) (m:=s.length) ?_ ?_
 ·exact⟨0,by omega,by omega,fun k h1 h2=>by omega,hs,rfl,rfl,rfl,trivial⟩
 ·rintro m f w ⟨p,hp,rfl,hn,hs,hf⟩
  have ob:=hf.chain
  obtain⟨g,rfl⟩:=ob
  by_cases he:p=s.length
  ·subst he
   refine sr<|WL.nextEnd rfl rfl hs (by omega) ?_
   refine wx rfl rfl<|wZ<|cq<|cF rfl<|CW.exit<|sr<|wA<|wZ<|CW.ret ?_
   refine fin_ret1 rfl ?_
   exact⟨-1,rfl,by rw[hn.all (Nat.le_refl _)];decide,hs.clear⟩
  ·have hlt:p<s.length:=by omega
   by_cases ha:bAt s p<128
   ·have hb:=bAt_of hlt
    refine sr<|WL.nextS rfl rfl hs (by omega) (dec_ascii ha) (fun w hs=>?_)
    refine wx rfl rfl<|wZ<|cq<|cT rfl<|ck<|cB<|sr<|wx rfl rfl<|wx rfl rfl<|wA<|wA<|wZ ?_
    by_cases hbad:badCh s[p]=true
    ·refine sr<|wm<|wm<|wE rfl (run_call en204 rfl rfl) (ir_spec _ _ _ (by omega) (by omega)) ?_
     rintro e w ⟨rfl,hq⟩
     refine⟨_,rfl,?_⟩
     refine wV (run_bT (run_geq rfl rfl) (by rw[hb,Int.toNat_natCast,Nat.toUInt8_eq,UInt8.ofNat_toNat];exact(ix2 _).2 hbad))<|wZ<|cT rfl<|sr<|wm<|wA<|wZ<|CW.ret ?_
     refine fin_ret1 rfl ?_
     have hany:s.any badCh=true:=any_eq_true.2 ⟨_,getElem_mem hlt,hbad⟩
     exact⟨p,rfl,by rw[hany];simp,(hs.callE hq).clear⟩
    ·refine sr<|wm<|wm<|wE rfl (run_call en204 rfl rfl) (ir_spec _ _ _ (by omega) (by omega)) ?_
     rintro e w ⟨rfl,hq⟩
     refine⟨_,rfl,?_⟩
     refine wV (run_bF (run_geq rfl rfl) (by rw[hb,Int.toNat_natCast,Nat.toUInt8_eq,UInt8.ofNat_toNat];exact fun h=>hbad ((ix2 _).1 h)))<|wZ<|cF rfl<|ck<|(show _∧_ from⟨rfl,_,?_,p+1,by omega,rfl,?_,hs.callE hq,rfl,rfl,rfl,trivial⟩)
     ·omega
     ·intro k h1 h2
      by_cases hk:k=p
      ·subst hk;simpa using hbad
      ·exact hn k h1 (by omega)
   ·have ob:=dec_wide hlt (by omega)
    obtain⟨h1,h2,h3,h4,h5⟩:=ob
    have ob:∃c wd,Utf8.decode ⟨⟨s⟩⟩ p=(c,wd):=⟨_,_,rfl⟩
    obtain⟨c,wd,hd⟩:=ob
    rw[hd] at h1 h2 h3 h4 h5
    simp only at h1 h2 h3 h4 h5
    refine sr<|WL.nextS rfl rfl hs (by omega) (hd) (fun w hs=>?_)
    refine wx rfl rfl<|wZ<|cq<|cT rfl<|ck<|cB<|sr<|wx rfl rfl<|wx rfl rfl<|wA<|wA<|wZ<|sr<|wm<|wm ?_
    refine wE rfl (run_call en204 rfl rfl) (idxRune_wide h1 h2 _) ?_
    rintro e w ⟨rfl,hq⟩
    refine⟨_,rfl,?_⟩
    refine jF<|wZ<|cF rfl<|ck<|(show _∧_ from⟨rfl,_,?_,p+wd,by omega,rfl,?_,hs.callE hq,rfl,rfl,rfl,trivial⟩)
    ·omega
    ·intro k hk1 hk2
     by_cases hk:k<p
     ·exact hn k hk1 hk
     ·have:=h5 (k - p) (by omega)
      rw[show p+(k - p)=k by omega,bAt_of hk1] at this
      have:¬badCh s[k]=true:=fun h=>by
       rcases (bad_iff _).1 h with h | h <;> rw[h] at this <;> revert this <;> decide
      simpa using this
theorem idxAny_iff:∀s:U8,(0≤Lib.indexAny s [0,47])↔s.any badCh=true
 | []=>by decide
 | b::l=>by
  have ih:=idxAny_iff l
  have hc:([0,47]:U8).contains b=badCh b:=by
   have:=bad_iff b
   cases hb:badCh b
   ·rw[hb] at this;simp at this⊢;exact this
   ·rw[hb] at this;simp at this⊢;exact this
  have hge:=Lib.indexAny_ge [0,47] l
  unfold Lib.indexAny
  rw[hc,any_cons]
  cases badCh b
  ·simp only[Bool.false_eq_true,if_false,Bool.false_or]
   rw[←ih]
   split
   ·rename_i h;simp at h;omega
   ·rename_i h;simp at h;omega
  ·simp
theorem idxAny_long{s:U8} (hl:8<s.length) (hl2:s.length≤64) (w0:World):CP 203 #[str s,str [0,47]] w0 fun e w'=>∃r:Int,e=.returned (.int .i64 r)∧(0≤r↔s.any badCh=true)∧Step [] [] w0 w':=by
 have hz:∀w,(zeroValue 312).run Tryz.prog w=.ok (.agg (Array.replicate 256 (.bool false))) w:=by
  have h:(Tryz.prog.info? 312).map (fun i=>(i.zero,i.size))=some (some (.agg (Array.replicate 256 (.bool false))),256):=by kernel_rfl
  intro w
  cases hi:Tryz.prog.info? 312 with
  | none=>rw[hi] at h;cases h
  | some i=>
   rw[hi] at h
   simp at h
   simp[zeroValue,typeInfo,hi,h.1]
 refine(Tryz.strings_IndexAny_long hz ⟨⟨s⟩⟩ ⟨⟨[0,47]⟩⟩ w0 (by decide) (by show 8<s.length;exact hl) (by show s.length<_;omega) (by decide) ?_).mono ?_
 ·intro j b hj
  have hm:b∈([0,47]:U8):=mem_of_getElem? hj
  simp at hm
  rcases hm with rfl | rfl <;> decide
 ·rintro e w' ⟨rfl,rfl⟩
  exact⟨_,rfl,idxAny_iff s,(((Step.refl w0).alloc _).alloc _).clear⟩
theorem containsAny_spec{s:U8}{b:Bool} (hl:s.length≤64) (hb:s.any badCh=b) (w:World):CP 198 #[str s,str [0,47]] w (Ret0 (.bool b) w):=by
 have hs:Step [] [] w w:=Step.refl w
 have hc:CP 203 #[str s,str [0,47]] w fun e w'=>∃r:Int,e=.returned (.int .i64 r)∧(0≤r↔s.any badCh=true)∧Step [] [] w w':=by
  rcases Nat.lt_or_ge 8 s.length with h | h
  ·exact idxAny_long h hl w
  ·exact idxAny_short h w
 cases b
 ·refine calls (n:=9) Tryz.func198 rfl rfl rfl ?_
  refine sr<|wA<|wZ<|sr<|wm<|wm<|wE rfl (run_call en203 rfl rfl) (hc) ?_
  rintro e w ⟨r,rfl,hr,hq⟩
  refine⟨_,rfl,?_⟩
  refine wV (run_bF (run_geq rfl rfl) (by exact fun h=>by rw[hr.1 h] at hb;cases hb))<|wA<|wZ<|CW.ret ?_
  refine fin_ret1 rfl ?_
  exact⟨rfl,hs.callE hq⟩
 ·refine calls (n:=9) Tryz.func198 rfl rfl rfl ?_
  refine sr<|wA<|wZ<|sr<|wm<|wm<|wE rfl (run_call en203 rfl rfl) (hc) ?_
  rintro e w ⟨r,rfl,hr,hq⟩
  refine⟨_,rfl,?_⟩
  refine wV (run_bT (run_geq rfl rfl) (by exact hr.2 hb))<|wA<|wZ<|CW.ret ?_
  refine fin_ret1 rfl ?_
  exact⟨rfl,hs.callE hq⟩
end Go.Gx
namespace Go.Gx
theorem bytesLess_nil (s:U8):Op.bytesLess [] s=true↔s≠[]:=by cases s <;> simp[Op.bytesLess]
theorem Step.own{S:List Nat}{L1 L:OL}{w0 w:World} (h:Step S (L1++L) w0 w):Step (L1.map (·.1)) L1 w w:=
 Step.start h.dropR.nodup h.dropR.has
theorem Step.own0{S:List Nat}{L1:OL}{w0 w:World} (h:Step S L1 w0 w):Step (L1.map (·.1)) L1 w w:=Step.start h.nodup h.has
theorem Step.rot1{S:List Nat}{p:Nat×Obj}{L:OL}{w0 w:World} (h:Step S (p::L) w0 w):Step S (L++[p]) w0 w:=Step.append_comm (L1:=[p]) h
theorem OwnSl.one{E sz k:Nat}{v:Value}{xs:List Value}{Lv:OL} (h:OwnSl E sz v k xs Lv):v.oneCell'=true:=by
 have ob:=h.form
 obtain⟨a,c,rfl⟩:=ob
 rfl
theorem u8s_append (a b:U8):u8s (a++b)=u8s a++u8s b:=by simp[u8s]
theorem u8s_len (a:U8):(u8s a).length=a.length:=by simp[u8s]
theorem Sl.own1{S:List Nat}{L:OL}{w0 w:World}{b T n c:Nat}{cs:List Value} (hs:Step S ((b,blk T cs)::L) w0 w){sz:Nat} (hl:cs.length=n*sz):Sl w sz (.slice (some ⟨b,0,none⟩) n c) n cs:=
 .mk hl (At.of_blk hs.hd)
theorem Step.disj{S:List Nat}{L1 L2:OL}{w0 w:World} (h:Step S (L1++L2) w0 w):∀p∈L1,p.1∉L2.map (·.1):=by
 intro p hp hm
 have hn:=h.nodup
 rw[List.map_append,List.nodup_append] at hn
 exact hn.2.2 p.1 (List.mem_map_of_mem hp) p.1 hm rfl
theorem OwnSl.outside{E sz k:Nat}{v:Value}{xs:List Value}{Lv:OL}{S:List Nat} (h:OwnSl E sz v k xs Lv) (hd:∀p∈Lv,p.1∉S):Outside v S:=by
 obtain⟨hl,⟨rfl,rfl,rfl⟩ | ⟨b,cap,more,rfl,rfl,hc⟩⟩:=h
 ·trivial
 ·exact hd _ (List.mem_singleton.2 rfl)
theorem Outside.fresh {S S':List Nat}{L:OL}{w0 w:World}{sz n:Nat}{v:Value}{cs:List Value} (hv:Sl w0 sz v n cs) (hne:cs≠[]) (hs:Step S L w0 w) (hS:Outside v S) (hsub:∀k∈S',k∈L.map (·.1)):Outside v S':=by
 obtain⟨hl,⟨a,c,rfl,rfl⟩ | ⟨b,off,c,rfl,hat⟩⟩:=hv
 ·exact absurd (List.eq_nil_of_length_eq_zero (by simpa using hl)) hne
 ·intro hk
  have ob:=List.mem_map.1 (hsub _ hk)
  obtain⟨p,hp,hpb⟩:=ob
  have hlt:=hat.lt hne
  rcases hs.new p hp with h1 | h1
  ·exact hS (hpb▸h1)
  ·have:p.1=b:=hpb
   omega
section
variable{P:Program}{f:Slots}{w:World}{d:Option Tmp}{ty:TypeId}{pos:String}{af:Array Edge}{x y:Operand}{T T':TypeId}{k k':IntKind}
theorem run_shrN{u j:Nat} (hx:ev f x=.int k u) (hy:ev f y=.int k' (8*j:Nat)) (hj:8*j<k.bits) :
  (execOp (ev f) ⟨d,.binOp .shr T x y T',ty,pos,af,none⟩).run P w=.ok (.value (.int k (u / 256 ^ j:Nat))) w:=by
 rw[run_shr hx hy (by omega)]
 have h1:min ((8*j:Nat):Int).toNat k.bits=8*j:=by rw[Int.toNat_natCast];omega
 rw[h1,Int.fdiv_eq_ediv_of_nonneg _ (by exact Int.le_of_lt (Int.pow_pos (by decide)))]
 have e:(2:Int) ^ (8*j)=((256 ^ j:Nat):Int):=by
  rw[show(256:Nat)=2 ^ 8 from rfl,←Nat.pow_mul]
  exact(Int.natCast_pow 2 (8*j)).symm
 rw[e,Int.natCast_ediv]
theorem run_convU8{u:Nat}{ds:TypeDesc} (hs:P.underlying T=some ds) (ht:P.underlying T'=some (.int .u8)) (hx:ev f x=.int k u) :
  (execOp (ev f) ⟨d,.convert T T' x,ty,pos,af,none⟩).run P w=.ok (.value (.int .u8 (UInt8.ofNat u).toNat)) w:=by
 rw[run_convInt hs ht hx]
 congr 3
theorem run_convU64{u:Nat}{ds:TypeDesc} (hs:P.underlying T=some ds) (ht:P.underlying T'=some (.int .u64)) (hx:ev f x=.int k u) (hu:u<18446744073709551616) :
  (execOp (ev f) ⟨d,.convert T T' x,ty,pos,af,none⟩).run P w=.ok (.value (.int .u64 u)) w:=by
 rw[run_convInt hs ht hx]
 have:IntKind.u64.wrap (u:Int)=u:=by
  have e:(2:Int) ^ IntKind.u64.bits=18446744073709551616:=by decide
  simp only[IntKind.wrap,IntKind.signed,Bool.false_and,Bool.false_eq_true,if_false,e]
  omega
 rw[this]
theorem run_convI64{a:Int}{ds:TypeDesc} (hs:P.underlying T=some ds) (ht:P.underlying T'=some (.int .i64)) (hx:ev f x=.int k a) (hu : -9223372036854775808≤a∧a≤9223372036854775807) :
  (execOp (ev f) ⟨d,.convert T T' x,ty,pos,af,none⟩).run P w=.ok (.value (.int .i64 a)) w:=by
 rw[run_convInt hs ht hx,wrap_i64 hu]
end
theorem Step.cast{S:List Nat}{b:Nat}{T:TypeId}{cs cs':List Value}{L:OL}{w0 w:World} (h:Step S ((b,blk T cs)::L) w0 w) (e:cs=cs'):Step S ((b,blk T cs')::L) w0 w:=e▸h
theorem fold_splice (off:Nat):∀(vs:List Value) (k:Nat) (cs:List Value),off+k+vs.length≤cs.length→(vs.zipIdx k).foldl (fun(a:Array Value) (x:Value×Nat)=>a.setIfInBounds (off+x.2) x.1) cs.toArray=(splice cs (off+k) vs).toArray
 | [],k,cs,_=>by rw[splice_nil];rfl
 | v::vs,k,cs,h=>by
  simp only[List.length_cons] at h
  rw[List.zipIdx_cons,List.foldl_cons,List.setIfInBounds_toArray,fold_splice off vs (k+1) _ (by rw[List.length_set];omega),←Nat.add_assoc,splice_cons v vs (by omega)]
theorem filled1{sz:Nat}{zs cs:List Value} (h:cs.length=sz) (hz:zs.length=sz):Filled sz 1 zs [(0,.agg cs.toArray)] cs:=by
 have e:((Value.agg cs.toArray).cells.zipIdx.foldl (fun(a:Array Value) (x:Value×Nat)=>a.setIfInBounds (0*sz+x.2) x.1) (List.replicate 1 zs).flatten.toArray)=cs.toArray:=by
  have h1:=fold_splice 0 cs 0 zs (by omega)
  have h2:splice zs 0 cs=cs:=by simp[splice,List.drop_of_length_le (show zs.length≤cs.length by omega)]
  simp only[Value.cells,Nat.zero_mul,List.replicate_one,List.flatten_cons,List.flatten_nil,List.append_nil,←Array.foldl_toList,Array.toList_zipIdx]
  rw[h1,h2]
 unfold Filled
 simp only[Instr.fill]
 rw[if_neg (by simp[Value.cells,h,hz]),e]
theorem OwnSl.room{E sz k:Nat}{v:Value}{xs:List Value}{Lv:OL} (h:OwnSl E sz v k xs Lv) (hsz:0<sz):Room v:=by
 obtain⟨hl,⟨rfl,rfl,rfl⟩ | ⟨b,cap,more,rfl,rfl,hc⟩⟩:=h
 ·exact Nat.le_refl 0
 ·show k≤cap
  rw[List.length_append,hl] at hc
  exact Nat.le_of_mul_le_mul_right (by omega:k*sz≤cap*sz) hsz
theorem Sl.stepK{S:List Nat}{L:OL}{w w':World}{sz n:Nat}{v:Value}{cs:List Value} (h:Sl w sz v n cs) (hs:Step S L w w') (hS:cs=[]∨Outside v S):Sl w' sz v n cs:=by
 rcases hS with rfl | hS
 ·obtain⟨hl,h | ⟨b,off,c,hv,_⟩⟩:=h
  ·exact⟨hl,.inl h⟩
  ·exact⟨hl,.inr ⟨b,off,c,hv,At.nil⟩⟩
 ·exact h.step hs hS
theorem Outside.newer{S:List Nat}{L:OL}{w0 w:World}{sz n:Nat}{v:Value}{cs:List Value} (h:Sl w0 sz v n cs) (hs:Step [] L w0 w) (hsub:∀k∈S,k∈L.map (·.1)):cs=[]∨Outside v S:=by
 by_cases hc:cs=[]
 ·exact .inl hc
 ·exact .inr (Outside.fresh h hc hs (outside_nil v) hsub)
theorem Step.two{S:List Nat}{p a b:Nat×Obj}{X Y:OL}{w0 w:World} (h:Step S (p::(X++(a::b::Y))) w0 w):Step S (p::a::b::(X++Y)) w0 w:=
 h.perm (List.Perm.cons _ (List.perm_middle.trans (List.Perm.cons _ List.perm_middle)))
theorem run_sliceSlE{P:Program}{f:Slots}{w:World}{d:Option Tmp}{ty:TypeId}{pos:String}{af:Array Edge}{x:Operand}{T E:TypeId}{len cap:Nat}{agg:Bool}{n bytes:Nat}{zs:List Value}{bk off lo hi m:Nat}{xl xh xm:Option Operand}{v:Value} (ht:P.underlying T=some (.slice E)) (hE:Ty P E agg n bytes zs) (hx:ev f x=.slice (some ⟨bk,off,none⟩) len cap)
  (hl:LoOk (xl.map (ev f)) lo) (hh:HiOk (xh.map (ev f)) hi len) (hm:HiOk (xm.map (ev f)) m cap) (hs:xm.isSome=true→xh.isSome=true)
  (h1:lo≤hi) (h2:hi≤m) (h3:m≤cap) (hv:cutSl n bk off lo hi m=v) :
  (execOp (ev f) ⟨d,.slice T x xl xh xm,ty,pos,af,none⟩).run P w=.ok (.value v) w:=by
 rw[←hv]
 exact run_sliceSl ht hE hx hl hh hm hs h1 h2 h3
theorem getD_of{bs:U8}{p:Nat} (h:p<bs.length):bs.getD p 0=bs[p]:=by simp[h]
theorem cell_u8{w:World}{a:Option Addr}{n c i:Nat}{s:U8} (h:Sl w 1 (.slice a n c) n (u8s s)) (hi:i<s.length):∃bk off,a=some ⟨bk,off,none⟩∧w.cell? ⟨bk,off+i*1,none⟩=some (.int .u8 (s[i]).toNat):=by
 obtain⟨hl,⟨_,c1,h1,h0⟩ | ⟨bk,off,c1,h1,hat⟩⟩:=h
 ·rw[u8s_len,h0] at hl
  omega
 ·cases h1
  exact⟨bk,off,rfl,by rw[Nat.mul_one];exact hat.cell (by simp[u8s,hi])⟩
theorem Sl.form{w:World}{sz n:Nat}{v:Value}{cs:List Value} (h:Sl w sz v n cs):∃a c,v=.slice a n c:=by
 obtain⟨_,⟨_,c,rfl,h0⟩ | ⟨b,off,c,rfl,_⟩⟩:=h
 ·exact⟨_,_,by rw[h0]⟩
 ·exact⟨_,_,rfl⟩
theorem fin_cellTmp{P:Program}{n:Nat}{w:World}{fn:Func}{R:Ending→World→Prop}{f:Slots}{t u:Tmp}{T:TypeId}{A:Addr}{v:Value} (hr:fn.results=#[.cell t T,.tmp u]) (hA:f t=.pointer (some A)) (hv:(loadVar T A).run P w=.ok v w) (h:R (.returned (.tuple #[v,f u])) w):fin P n fn R .ret f [] w:=
 fun a ha=>bodyPost_ret (v:=.tuple #[v,f u]) (by simp[results,hr,ha.get,hA,asAddr,hv]) ha.defers h
theorem Step.mid{S:List Nat} (L1:OL){L2 L3:OL}{w w':World} (h:Step S (L1++(L2++L3)) w w'):Step S (L1++(L3++L2)) w w':=h.perm (List.Perm.append_left L1 List.perm_append_comm)
def rnd (a:Int) (n:Nat):Nat:=(a % (n:Int)).toNat
theorem Sl.cut{w:World}{sz b off n lo hi m:Nat}{cs:List Value} (hat:At w b off cs) (hl:cs.length=n*sz) (h1:lo≤hi) (h2:hi≤n) (h3:hi≤m):Sl w sz (cutSl sz b off lo hi m) (hi - lo) ((cs.take (hi*sz)).drop (lo*sz)):=by
 have hle:hi*sz≤n*sz:=Nat.mul_le_mul_right _ h2
 have hll:lo*sz≤hi*sz:=Nat.mul_le_mul_right _ h1
 unfold cutSl
 refine .mk ?_ ?_
 ·rw[List.length_drop,List.length_take,hl,Nat.min_eq_left hle,Nat.sub_mul]
 ·split
  ·have:hi=lo:=by omega
   subst this
   rw[List.drop_take]
   simp
   exact At.nil
  ·exact(hat.take (hi*sz)).drop (lo*sz)
theorem splice_mid{A M R vs:List Value}{off:Nat} (ho:off=A.length) (h:vs.length=M.length):splice (A++M++R) off vs=A++vs++R:=by
 subst ho
 simp[splice,List.append_assoc,h]
theorem Step.blkEq{S:List Nat}{b:Nat}{T:TypeId}{cs cs':List Value}{L:OL}{w0 w:World} (e:cs=cs') (h:Step S ((b,blk T cs)::L) w0 w):Step S ((b,blk T cs')::L) w0 w:=e▸h
theorem OwnSl.some1{E sz k:Nat}{v:Value}{xs:List Value}{Lv:OL} (h:OwnSl E sz v k xs Lv) (hk:0<k):∃b cap more,v=.slice (some ⟨b,0,none⟩) k cap∧Lv=[(b,blk E (xs++more))]∧(xs++more).length=cap*sz:=by
 obtain⟨hl,⟨h1,h0,_⟩ | h⟩:=h
 ·omega
 ·exact h
def strs (l:List (List UInt8)):List Value:=l.map str
theorem strs_len (l:List (List UInt8)):(strs l).length=l.length:=by simp[strs]
theorem filled_s (v z:Value) (h:v.cells=#[v]):Filled 1 1 [z] [(0,v)] [v]:=by
 simp[Filled,Instr.fill,h]
section
variable{P:Program}{f:Slots}{w:World}{d:Option Tmp}{ty:TypeId}{pos:String}{af:Array Edge}{x y:Operand}{T T' E:TypeId}
theorem run_callExt {F : FuncId} {fn : Func} {e : Array Value → Sem Value} {fo : Operand} {args : Array Operand} {ats : Array TypeId} {vs : List Value} {v : Value} {w' : World} (hf : P.funcs[F]? = some fn) (hname : (fn.name == "runtime.NumGoroutine") = false)
  (hb:fn.body.isNone=true) (hn:Extern.findNext fn=none) (he:Extern.find fn=some e) (hx:ev f fo=.func (.func F) #[] #[]) (hv:args.toList.map (ev f)=vs) (hr:(e vs.toArray).run P w=.ok v w') :
  (execOp (ev f) ⟨d,.call { callee:=.value fo,args,argTypes:=ats },ty,pos,af,none⟩).run P w=.ok (.value v) w':=by
 have e1:args.map (ev f)=vs.toArray:=by rw[←hv];apply Array.ext';simp
 have h:=run_callFunc_extern hf hname hb hn he vs.toArray w
 rw[hr] at h
 simp[execOp,resolve,hx,Deferred.ofValue,invoke,e1,h]
end
section
variable{P:Program}{ops:Array Oper}{Q:Post}{n:Nat}{rest:List Oper}{f:Slots}{ds:List Deferred}{w w0:World}{ty:TypeId}{pos:String}{af:Array Edge}{x y:Operand}{T T' E:TypeId}{d:Nat}{S:List Nat}{L:OL}
theorem WL.clear{agg:Bool}{sz bytes k cap b off:Nat}{zs cs:List Value}{T2:TypeId} (ht:P.underlying T=some (.slice E)) (hE:Ty P E agg sz bytes zs) (hzl:zs.length=sz)
  (hx:ev f x=.slice (some ⟨b,off,none⟩) k cap) (hs:Step S ((b,blk T2 cs)::L) w0 w) (hk:0<k) (hlen:off+k*sz≤cs.length) (hz1:(zs.all fun v=>v.oneCell')=true)
  (h:∀w',Step S ((b,blk T2 (splice cs off (List.replicate k zs).flatten))::L) w0 w'→WL P ops Q n rest f ds w') :
  WL P ops Q n (⟨none,.call { callee:=.builtin .clear,args:=#[x],argTypes:=#[T] },ty,pos,af,none⟩::rest) f ds w:=by
 have ob:=hE.info
 obtain⟨i,z0,hi,hsz,hby,hz0,hc0,_⟩:=ob
 have hzc:Builtin.zeroCells z0.cells k=((List.replicate k zs).flatten).toArray:=by
  rw[hc0]
  have:=zero_row zs k
  simpa[Builtin.zeroCells] using this
 have hl:((List.replicate k zs).flatten).length=k*sz:=by
  simp only[List.length_flatten,List.map_replicate,List.sum_replicate_nat,hzl]
 have hc1:Cells1 (List.replicate k zs).flatten:=fun v hv=>by
  have ob:=List.mem_flatten.1 hv
  obtain⟨l,hl1,hl2⟩:=ob
  rw[List.mem_replicate] at hl1
  rw[hl1.2] at hl2
  exact List.all_eq_true.1 hz1 v hl2
 have hst:=run_storeCells (P:=P) (List.replicate k zs).flatten 0 off b T2 cs w hs.hd (by rw[hl];omega) hc1
 have hr:(Builtin.clear_ #[T] ty #[.slice (some ⟨b,off,none⟩) k cap]).run P w=.ok (.tuple #[]) (setRow w b (off+0) (List.replicate k zs).flatten):=by
  match k,hk with
  | k'+1,_=>
   simp only[Builtin.clear_,Sem.run_bind,List.getElem?_toArray,List.getElem?_cons_zero,run_underlying ht,Result.andThen_ok]
   simp[zeroValue,typeInfo,hi,hz0,hzc,hst]
 refine WL.drop (v:=.tuple #[]) ?_ (h _ (Step.row _ off cs w hs (by rw[hl];omega)))
 simp only[execOp,resolve,invoke,builtin,Sem.run_bind,Sem.run_pure,Result.andThen_ok,List.map_toArray,List.map_cons,List.map_nil,hx,hr]
 rfl
end
end Go.Gx
namespace Go.Gx
open Go.Proofs List
theorem isName_spec{s:U8}{b:Bool} (hb:isName s=b) (w:World) (hlen:s.length≤9223372036854775807):CP 187 #[str s] w (Ret0 (.bool b) w):=by
 have hs:Step [] [] w w:=Step.refl w
 by_cases h1:1≤s.length
 ·by_cases h2:s.length≤64
  ·by_cases h3:s=[46]
   ·obtain rfl:b=false:=by rw[←hb];simp[isName,h3]
    refine calls (n:=24) Tryz.func187 rfl rfl rfl ?_
    refine sr<|wA<|wZ<|sr<|wm<|wV (run_lenStr u9 rfl)<|jT<|wm<|wy<|wm<|wy<|wV (run_lenStr u9 rfl)<|wy<|iT<|pT<|wm<|wy<|wm<|wy<|wV (run_bF (run_strNe rfl rfl) (by simp[h3]))<|pT<|wm ?_
    refine wz<|wz<|pF<|wm<|wz<|wz<|wz<|pF<|wA<|wZ<|CW.ret ?_
    refine fin_ret1 rfl ?_
    exact⟨rfl,hs⟩
   ·by_cases h4:s=[46,46]
    ·obtain rfl:b=false:=by rw[←hb];simp[isName,h4]
     refine calls (n:=24) Tryz.func187 rfl rfl rfl ?_
     refine sr<|wA<|wZ<|sr<|wm<|wV (run_lenStr u9 rfl)<|jT<|wm<|wy<|wm<|wy<|wV (run_lenStr u9 rfl)<|wy<|iT<|pT<|wm<|wy<|wm<|wy<|wV (run_bT (run_strNe rfl rfl) (by exact h3))<|pT<|wm ?_
     refine wy<|wm<|wy<|wV (run_bF (run_strNe rfl rfl) (by simp[h4]))<|pT<|wm<|wz<|wz<|wz<|pF<|wA<|wZ<|CW.ret ?_
     refine fin_ret1 rfl ?_
     exact⟨rfl,hs⟩
    ·obtain rfl:b = !s.any badCh:=by rw[←hb];simp[isName,h1,h2,h3,h4]
     refine calls (n:=24) Tryz.func187 rfl rfl rfl ?_
     refine sr<|wA<|wZ<|sr<|wm<|wV (run_lenStr u9 rfl)<|jT<|wm<|wy<|wm<|wy<|wV (run_lenStr u9 rfl)<|wy<|iT<|pT<|wm<|wy<|wm<|wy<|wV (run_bT (run_strNe rfl rfl) (by exact h3))<|pT<|wm ?_
     refine wy<|wm<|wy<|wV (run_bT (run_strNe rfl rfl) (by exact h4))<|pT<|wm<|wy<|wm<|wy<|wE rfl (run_call en198 rfl rfl) (containsAny_spec h2 rfl _) ?_
     rintro e w ⟨rfl,hq⟩
     refine⟨_,rfl,?_⟩
     refine wy<|wN rfl<|pT<|wA<|wZ<|CW.ret ?_
     refine fin_ret1 rfl ?_
     exact⟨rfl,hs.callE hq⟩
  ·obtain rfl:b=false:=by rw[←hb];simp[isName,h2]
   refine calls (n:=24) Tryz.func187 rfl rfl rfl ?_
   refine sr<|wA<|wZ<|sr<|wm<|wV (run_lenStr u9 rfl)<|jT<|wm<|wy<|wm<|wy<|wV (run_lenStr u9 rfl)<|wy<|iF<|pT<|wm<|wz<|wz<|pF<|wm<|wz<|wz ?_
   refine pF<|wm<|wz<|wz<|wz<|pF<|wA<|wZ<|CW.ret ?_
   refine fin_ret1 rfl ?_
   exact⟨rfl,hs⟩
 ·obtain rfl:b=false:=by rw[←hb];simp[isName,h1]
  refine calls (n:=24) Tryz.func187 rfl rfl rfl ?_
  refine sr<|wA<|wZ<|sr<|wm<|wV (run_lenStr u9 rfl)<|jF<|wm<|wz<|wz<|wz<|pF<|wm<|wz<|wz<|pF<|wm<|wz<|wz<|pF<|wm<|wz ?_
  refine wz<|wz<|pF<|wA<|wZ<|CW.ret ?_
  refine fin_ret1 rfl ?_
  exact⟨rfl,hs⟩
theorem refIsName_spec{s:U8}{b:Bool} (hb:isName s=b) (w:World) (hlen:s.length≤9223372036854775807):CP 183 #[str s] w (Ret0 (.bool b) w):=by
 have hs:Step [] [] w w:=Step.refl w
 by_cases h1:1≤s.length
 ·by_cases h2:s.length≤64
  ·by_cases h3:s=[46]
   ·obtain rfl:b=false:=by rw[←hb];simp[isName,h3]
    refine calls (n:=36) Tryz.func183 rfl rfl rfl ?_
    refine sr<|wA<|wZ<|cq<|sr<|wm<|wV (run_lenStr u9 rfl)<|lF<|wm<|wy<|wm<|wy<|wV (run_lenStr u9 rfl)<|wy<|xF<|pF<|wm<|wy<|wm<|wy<|wV (run_bT (run_strEq rfl rfl) (by exact h3))<|pF<|wm ?_
    refine wz<|wz<|pT<|wZ<|cT rfl<|sr<|wA<|wZ<|CW.ret ?_
    refine fin_ret1 rfl ?_
    exact⟨rfl,hs⟩
   ·by_cases h4:s=[46,46]
    ·obtain rfl:b=false:=by rw[←hb];simp[isName,h4]
     refine calls (n:=36) Tryz.func183 rfl rfl rfl ?_
     refine sr<|wA<|wZ<|cq<|sr<|wm<|wV (run_lenStr u9 rfl)<|lF<|wm<|wy<|wm<|wy<|wV (run_lenStr u9 rfl)<|wy<|xF<|pF<|wm<|wy<|wm<|wy<|wV (run_bF (run_strEq rfl rfl) (by exact h3))<|pF<|wm ?_
     refine wy<|wm<|wy<|wV (run_bT (run_strEq rfl rfl) (by exact h4))<|pF<|wZ<|cT rfl<|sr<|wA<|wZ<|CW.ret ?_
     refine fin_ret1 rfl ?_
     exact⟨rfl,hs⟩
    ·have e:isName s = !s.any badCh:=by simp[isName,h1,h2,h3,h4]
     refine calls (n:=36) Tryz.func183 rfl rfl rfl ?_
     refine sr<|wA<|wZ<|cq<|sr<|wm<|wV (run_lenStr u9 rfl)<|lF<|wm<|wy<|wm<|wy<|wV (run_lenStr u9 rfl)<|wy<|xF<|pF<|wm<|wy<|wm<|wy<|wV (run_bF (run_strEq rfl rfl) (by exact h3))<|pF<|wm ?_
     refine wy<|wm<|wy<|wV (run_bF (run_strEq rfl rfl) (by exact h4))<|pF<|wZ<|cF rfl<|ck<|cq<|sr<|wA<|wZ<|cB ?_
     refine CW.loop (fun m f w'=>∃i,i≤s.length∧m=s.length - i∧Step [] [] w w'∧(s.take i).any badCh=false∧Holds f [(0,str s),(3,.int .i64 i)]) (m:=s.length) ?_ ?_
     ·exact⟨0,by omega,by omega,hs,rfl,rfl,rfl,trivial⟩
     ·rintro m f w ⟨i,hi,rfl,hs,hn,hf⟩
      have ob:=hf.chain
      obtain⟨g,rfl⟩:=ob
      refine cq<|sr<|wm<|wm<|wV (run_lenStr u9 rfl)<|wV (run_lss rfl rfl)<|wZ<|CW.condP rfl (fun h=>?_) (fun h=>?_)
      ·have hlt:i<s.length:=by omega
       have hc:s[i]?=some s[i]:=getElem?_eq_getElem hlt
       have hany:badCh s[i]=true→s.any badCh=true:=fun h=>any_eq_true.2 ⟨_,getElem_mem hlt,h⟩
       by_cases hc0:s[i]=0
       ·refine ck<|cq<|cB<|sr<|wm<|wm<|wV (run_strIdx u9 rfl rfl (hc))<|wV (run_bT (run_eql rfl rfl) (by rw[hc0];rfl))<|wm<|wz<|wz<|wz<|wz<|pT<|wZ ?_
        refine cT rfl<|sr<|wA<|wZ<|CW.ret ?_
        refine fin_ret1 rfl ?_
        obtain rfl:b=false:=by rw[←hb,e,hany (by simp[badCh,hc0])];rfl
        exact⟨rfl,hs⟩
       ·have hz:¬((s[i].toNat:Int)=0):=fun h=>hc0 (UInt8.toNat_inj.1 (by simpa using h))
        by_cases hc1:s[i]=47
        ·refine ck<|cq<|cB<|sr<|wm<|wm<|wV (run_strIdx u9 rfl rfl (hc))<|wV (run_bF (run_eql rfl rfl) (by exact hz))<|wm<|wy<|wm<|wy<|wm<|wy<|wV (run_strIdx u9 rfl rfl (hc))<|wy<|wV (run_bT (run_eql rfl rfl) (by rw[hc1];rfl))<|pF<|wZ ?_
         refine cT rfl<|sr<|wA<|wZ<|CW.ret ?_
         refine fin_ret1 rfl ?_
         obtain rfl:b=false:=by rw[←hb,e,hany (by simp[badCh,hc1])];rfl
         exact⟨rfl,hs⟩
        ·have hz1:¬((s[i].toNat:Int)=47):=fun h=>hc1 (UInt8.toNat_inj.1 (by simpa using(show s[i].toNat=47 by omega)))
         refine ck<|cq<|cB<|sr<|wm<|wm<|wV (run_strIdx u9 rfl rfl (hc))<|wV (run_bF (run_eql rfl rfl) (by exact hz))<|wm<|wy<|wm<|wy<|wm<|wy<|wV (run_strIdx u9 rfl rfl (hc))<|wy<|wV (run_bF (run_eql rfl rfl) (by exact hz1))<|pF<|wZ ?_
         refine cF rfl<|ck<|cr<|wm<|wP ((i+1:Nat):Int)<|wA<|wZ<|(show _∧_ from⟨rfl,_,?_,i+1,by omega,rfl,hs,?_,rfl,rfl,trivial⟩)
         ·omega
         ·rw[take_succ_eq_append_getElem hlt,any_append,hn]
          simp[badCh,hc0,hc1]
      ·refine CW.exit<|sr<|wA<|wZ<|CW.ret ?_
       refine fin_ret1 rfl ?_
       obtain rfl:i=s.length:=by omega
       rw[take_length] at hn
       obtain rfl:b=true:=by rw[←hb,e,hn];rfl
       exact⟨rfl,hs⟩
  ·obtain rfl:b=false:=by rw[←hb];simp[isName,h2]
   refine calls (n:=36) Tryz.func183 rfl rfl rfl ?_
   refine sr<|wA<|wZ<|cq<|sr<|wm<|wV (run_lenStr u9 rfl)<|lF<|wm<|wy<|wm<|wy<|wV (run_lenStr u9 rfl)<|wy<|xT<|pF<|wm<|wz<|wz<|pT<|wm<|wz<|wz ?_
   refine pT<|wZ<|cT rfl<|sr<|wA<|wZ<|CW.ret ?_
   refine fin_ret1 rfl ?_
   exact⟨rfl,hs⟩
 ·obtain rfl:b=false:=by rw[←hb];simp[isName,h1]
  refine calls (n:=36) Tryz.func183 rfl rfl rfl ?_
  refine sr<|wA<|wZ<|cq<|sr<|wm<|wV (run_lenStr u9 rfl)<|lT<|wm<|wz<|wz<|wz<|pT<|wm<|wz<|wz<|pT<|wm<|wz<|wz<|pT<|wZ ?_
  refine cT rfl<|sr<|wA<|wZ<|CW.ret ?_
  refine fin_ret1 rfl ?_
  exact⟨rfl,hs⟩
theorem cmp_lt:∀a b:U8,Lib.compareBytes a b<0↔Op.bytesLess a b=true
 | [],[]=>by simp[Lib.compareBytes,Op.bytesLess]
 | [],_::_=>by simp[Lib.compareBytes,Op.bytesLess]
 | _::_,[]=>by simp[Lib.compareBytes,Op.bytesLess]
 | a::x,b::y=>by
  have ih:=cmp_lt x y
  unfold Lib.compareBytes
  by_cases h:a<b
  ·simp[h,Op.bytesLess]
  ·by_cases h2:b<a
   ·have hne:¬a=b:=fun e=>by subst e;exact UInt8.lt_irrefl _ h2
    simp[h,h2,Op.bytesLess,hne]
   ·have:a=b:=UInt8.toNat_inj.1 (by have h3:=UInt8.not_lt.1 h;have h4:=UInt8.not_lt.1 h2;exact Nat.le_antisymm (UInt8.le_iff_toNat_le.1 h4) (UInt8.le_iff_toNat_le.1 h3))
    subst this
    simp[Op.bytesLess,UInt8.lt_irrefl,ih]
theorem cmp_eq0:∀a b:U8,Lib.compareBytes a b=0↔a=b
 | [],[]=>by simp[Lib.compareBytes]
 | [],_::_=>by simp[Lib.compareBytes]
 | _::_,[]=>by simp[Lib.compareBytes]
 | a::x,b::y=>by
  have ih:=cmp_eq0 x y
  unfold Lib.compareBytes
  by_cases h:a<b
  ·have hne:¬a=b:=fun e=>by subst e;exact UInt8.lt_irrefl _ h
   simp[h,hne]
  ·by_cases h2:b<a
   ·have hne:¬a=b:=fun e=>by subst e;exact UInt8.lt_irrefl _ h2
    simp[h,h2,hne]
   ·have:a=b:=UInt8.toNat_inj.1 (by have h3:=UInt8.not_lt.1 h;have h4:=UInt8.not_lt.1 h2;exact Nat.le_antisymm (UInt8.le_iff_toNat_le.1 h4) (UInt8.le_iff_toNat_le.1 h3))
    subst this
    simp[UInt8.lt_irrefl,ih]
end Go.Gx
namespace Go.Gx
abbrev Wd:=BitVec 32
def wv (x:Wd):Value:=.int .u32 (x.toNat:Int)
def wvs (l:List Wd):List Value:=l.map wv
def rotr (x:Wd) (n:Nat):Wd:=x <<< (32 - n) ||| x >>> n
def kL:List Wd:=[
 0x428a2f98#32,0x71374491#32,0xb5c0fbcf#32,0xe9b5dba5#32,0x3956c25b#32,0x59f111f1#32,0x923f82a4#32,0xab1c5ed5#32,
 0xd807aa98#32,0x12835b01#32,0x243185be#32,0x550c7dc3#32,0x72be5d74#32,0x80deb1fe#32,0x9bdc06a7#32,0xc19bf174#32,
 0xe49b69c1#32,0xefbe4786#32,0x0fc19dc6#32,0x240ca1cc#32,0x2de92c6f#32,0x4a7484aa#32,0x5cb0a9dc#32,0x76f988da#32,
 0x983e5152#32,0xa831c66d#32,0xb00327c8#32,0xbf597fc7#32,0xc6e00bf3#32,0xd5a79147#32,0x06ca6351#32,0x14292967#32,
 0x27b70a85#32,0x2e1b2138#32,0x4d2c6dfc#32,0x53380d13#32,0x650a7354#32,0x766a0abb#32,0x81c2c92e#32,0x92722c85#32,
 0xa2bfe8a1#32,0xa81a664b#32,0xc24b8b70#32,0xc76c51a3#32,0xd192e819#32,0xd6990624#32,0xf40e3585#32,0x106aa070#32,
 0x19a4c116#32,0x1e376c08#32,0x2748774c#32,0x34b0bcb5#32,0x391c0cb3#32,0x4ed8aa4a#32,0x5b9cca4f#32,0x682e6ff3#32,
 0x748f82ee#32,0x78a5636f#32,0x84c87814#32,0x8cc70208#32,0x90befffa#32,0xa4506ceb#32,0xbef9a3f7#32,0xc67178f2#32]
def ivL:List Wd:=[0x6a09e667#32,0xbb67ae85#32,0x3c6ef372#32,0xa54ff53a#32,0x510e527f#32,0x9b05688c#32,0x1f83d9ab#32,0x5be0cd19#32]
def sg0 (x:Wd):Wd:=rotr x 7 ^^^ rotr x 18 ^^^ x >>> 3
def sg1 (y:Wd):Wd:=rotr y 17 ^^^ rotr y 19 ^^^ y >>> 10
def byW (c:UInt8):Wd:=BitVec.ofNat 32 c.toNat
def wordB (b:(List UInt8)) (t:Nat):Wd:=byW (b.getD (4*t) 0) <<< 24 ||| byW (b.getD (4*t+1) 0) <<< 16 ||| byW (b.getD (4*t+2) 0) <<< 8 ||| byW (b.getD (4*t+3) 0)
def wNext (l:List Wd) (t:Nat):Wd:=l.getD (t - 16) 0+sg0 (l.getD (t - 15) 0)+l.getD (t - 7) 0+sg1 (l.getD (t - 2) 0)
def sched (b:(List UInt8)):Nat→List Wd
 | 0=>[]
 | t+1=>sched b t++[if t<16 then wordB b t else wNext (sched b t) t]
structure St8 where
 a:Wd
 b:Wd
 c:Wd
 d:Wd
 e:Wd
 f:Wd
 g:Wd
 h:Wd
 deriving DecidableEq
def St8.l (s:St8):List Wd:=[s.a,s.b,s.c,s.d,s.e,s.f,s.g,s.h]
def stP (s:St8) (k w:Wd):Wd:=s.h+(rotr s.e 6 ^^^ rotr s.e 11 ^^^ rotr s.e 25)+(s.e &&& s.f ^^^ ~~~ s.e &&& s.g)+k+w
def stQ (s:St8):Wd:=(rotr s.a 2 ^^^ rotr s.a 13 ^^^ rotr s.a 22)+(s.a &&& s.b ^^^ s.a &&& s.c ^^^ s.b &&& s.c)
def stStep (s:St8) (k w:Wd):St8:=⟨stP s k w+stQ s,s.a,s.b,s.c,s.d+stP s k w,s.e,s.f,s.g⟩
def stRounds (s:St8) (ws:List Wd):Nat→St8
 | 0=>s
 | t+1=>stStep (stRounds s ws t) (kL.getD t 0) (ws.getD t 0)
def stAdd (s r:St8):St8:=⟨s.a+r.a,s.b+r.b,s.c+r.c,s.d+r.d,s.e+r.e,s.f+r.f,s.g+r.g,s.h+r.h⟩
def iv8:St8:=⟨0x6a09e667#32,0xbb67ae85#32,0x3c6ef372#32,0xa54ff53a#32,0x510e527f#32,0x9b05688c#32,0x1f83d9ab#32,0x5be0cd19#32⟩
def stBlock (s:St8) (b:(List UInt8)):St8:=stAdd s (stRounds s (sched b 64) 64)
def stBlocks (l:(List UInt8)):Nat→St8
 | 0=>iv8
 | n+1=>stBlock (stBlocks l n) ((l.drop (64*n)).take 64)
def lenB (n:Nat):(List UInt8):=(List.range 8).map fun i=>UInt8.ofNat (n*8 % 18446744073709551616 / 256 ^ (7 - i))
def fillB (b:(List UInt8)):(List UInt8):=b++128::(List.replicate ((119 - b.length % 64) % 64) 0++lenB b.length)
def wBytes (x:Wd):(List UInt8):=(List.range 4).map fun i=>UInt8.ofNat (x.toNat / 256 ^ (3 - i))
def shaL (b:(List UInt8)):(List UInt8):=((stBlocks (fillB b) ((fillB b).length / 64)).l).flatMap wBytes
theorem wrap32_nat (n:Nat):IntKind.u32.wrap (n:Int)=((n % 4294967296:Nat):Int):=by
 unfold IntKind.wrap
 simp only[IntKind.bits,IntKind.signed,Bool.false_and,Bool.false_eq_true,if_false]
 have:(2:Int) ^ 32=((4294967296:Nat):Int):=by decide
 rw[this,Int.natCast_emod]
theorem wd_lt (a:Wd):a.toNat<4294967296:=a.isLt
theorem wd_ofInt (a:Wd):BitVec.ofInt 32 ((a.toNat:Nat):Int)=a:=by
 rw[BitVec.ofInt_natCast]
 simp
section
variable{P:Program}{f:Slots}{w:World}{d:Option Tmp}{ty:TypeId}{pos:String}{af:Array Edge}{x y:Operand}{T T':TypeId}{a b:Wd}
theorem run_add32 (hx:ev f x=wv a) (hy:ev f y=wv b):(execOp (ev f) ⟨d,.binOp .add T x y T',ty,pos,af,none⟩).run P w=.ok (.value (wv (a+b))) w:=by
 have h:=run_addW (P:=P) (w:=w) (d:=d) (T:=T) (T':=T') (ty:=ty) (pos:=pos) (af:=af) (k:=.u32) hx hy
 rw[h]
 have e:((a.toNat:Int)+(b.toNat:Int))=((a.toNat+b.toNat:Nat):Int):=by omega
 rw[e,wrap32_nat,wv,BitVec.toNat_add]
theorem run_xor32 (hx:ev f x=wv a) (hy:ev f y=wv b):(execOp (ev f) ⟨d,.binOp .xor T x y T',ty,pos,af,none⟩).run P w=.ok (.value (wv (a ^^^ b))) w:=by
 have ha:=wd_ofInt a
 have hb:=wd_ofInt b
 have hl:=wrap32_nat (a ^^^ b).toNat
 rw[Nat.mod_eq_of_lt (wd_lt _)] at hl
 simp[execOp,hx,hy,wv,go_sem,Op.intBits,IntKind.bits,ha,hb]
 exact hl
theorem run_and32 (hx:ev f x=wv a) (hy:ev f y=wv b):(execOp (ev f) ⟨d,.binOp .and T x y T',ty,pos,af,none⟩).run P w=.ok (.value (wv (a &&& b))) w:=by
 have ha:=wd_ofInt a
 have hb:=wd_ofInt b
 have hl:=wrap32_nat (a &&& b).toNat
 rw[Nat.mod_eq_of_lt (wd_lt _)] at hl
 simp[execOp,hx,hy,wv,go_sem,Op.intBits,IntKind.bits,ha,hb]
 exact hl
theorem run_or32 (hx:ev f x=wv a) (hy:ev f y=wv b):(execOp (ev f) ⟨d,.binOp .or T x y T',ty,pos,af,none⟩).run P w=.ok (.value (wv (a ||| b))) w:=by
 have ha:=wd_ofInt a
 have hb:=wd_ofInt b
 have hl:=wrap32_nat (a ||| b).toNat
 rw[Nat.mod_eq_of_lt (wd_lt _)] at hl
 simp[execOp,hx,hy,wv,go_sem,Op.intBits,IntKind.bits,ha,hb]
 exact hl
theorem run_not32 (hx:ev f x=wv a):(execOp (ev f) ⟨d,.unOp .xor T x,ty,pos,af,none⟩).run P w=.ok (.value (wv (~~~ a))) w:=by
 have ha:=wd_ofInt a
 have hm:BitVec.ofInt 32 (IntKind.max .u32)=BitVec.allOnes 32:=by decide
 have hx2:BitVec.allOnes 32 ^^^ a = ~~~ a:=by rw[BitVec.xor_comm,BitVec.xor_allOnes]
 have hl:=wrap32_nat (~~~ a).toNat
 rw[Nat.mod_eq_of_lt (wd_lt _)] at hl
 have h:(Op.unary .xor (wv a)).run P w=.ok (wv (~~~ a)) w:=by
  rw[←hx2] at hl⊢
  simp only[Op.unary,wv,IntKind.signed,Bool.false_eq_true,if_false,Op.intBits,IntKind.bits,ha,hm]
  exact congrArg (fun n=>(Result.ok (Value.int .u32 n) w:Result Value)) hl
 simp[execOp,hx,h]
theorem run_shl32{n:Nat}{k':IntKind} (hn:n≤32) (hx:ev f x=wv a) (hy:ev f y=.int k' (n:Nat)):(execOp (ev f) ⟨d,.binOp .shl T x y T',ty,pos,af,none⟩).run P w=.ok (.value (wv (a <<< n))) w:=by
 rw[run_shl hx hy (by omega)]
 have e1:min (((n:Nat):Int).toNat) IntKind.u32.bits=n:=by simp only[IntKind.bits,Int.toNat_natCast];omega
 have e2:((a.toNat:Int)*2 ^ n)=((a.toNat*2 ^ n:Nat):Int):=by rw[Int.natCast_mul,Int.natCast_pow];rfl
 rw[e1,e2,wrap32_nat,wv,BitVec.toNat_shiftLeft,Nat.shiftLeft_eq]
theorem run_shr32{n:Nat}{k':IntKind} (hn:n≤32) (hx:ev f x=wv a) (hy:ev f y=.int k' (n:Nat)):(execOp (ev f) ⟨d,.binOp .shr T x y T',ty,pos,af,none⟩).run P w=.ok (.value (wv (a >>> n))) w:=by
 rw[run_shr hx hy (by omega)]
 have e1:min (((n:Nat):Int).toNat) IntKind.u32.bits=n:=by simp only[IntKind.bits,Int.toNat_natCast];omega
 have e2:(a.toNat:Int).fdiv (2 ^ n)=((a.toNat / 2 ^ n:Nat):Int):=by
  have:(2:Int) ^ n=((2 ^ n:Nat):Int):=by rw[Int.natCast_pow];rfl
  rw[this,Int.natCast_ediv,Int.fdiv_eq_ediv_of_nonneg _ (Int.natCast_nonneg _)]
 rw[e1,e2,wv,BitVec.toNat_ushiftRight,Nat.shiftRight_eq_div_pow]
theorem run_to32{c:UInt8}{ds:TypeDesc} (hs:P.underlying T=some ds) (ht:P.underlying T'=some (.int .u32)) (hx:ev f x=.int .u8 c.toNat) :
  (execOp (ev f) ⟨d,.convert T T' x,ty,pos,af,none⟩).run P w=.ok (.value (wv (byW c))) w:=by
 rw[run_convInt hs ht hx,wrap32_nat]
 have:=c.toNat_lt
 rw[wv,byW,BitVec.toNat_ofNat]
theorem run_neg64{c:Int} (hx:ev f x=.int .i64 c) (hc : -9223372036854775807≤c∧c≤9223372036854775807):(execOp (ev f) ⟨d,.unOp .neg T x,ty,pos,af,none⟩).run P w=.ok (.value (.int .i64 (-c))) w:=by
 have hw:IntKind.i64.wrap (0 - c) = -c:=by rw[show 0 - c = -c by omega];exact wrap_i64 (by omega)
 have h:(Op.unary .neg (.int .i64 c)).run P w=.ok (.int .i64 (-c)) w:=by
  simp only[Op.unary,Op.intArith,hw]
  rfl
 simp[execOp,hx,h]
theorem run_subU{m n:Nat} (hx:ev f x=.int .u64 m) (hy:ev f y=.int .u64 n) (h:n≤m) (hm:m<18446744073709551616):(execOp (ev f) ⟨d,.binOp .sub T x y T',ty,pos,af,none⟩).run P w=.ok (.value (.int .u64 ((m - n:Nat):Int))) w:=by
 have e:IntKind.u64.wrap ((m:Int) - n)=((m - n:Nat):Int):=by
  unfold IntKind.wrap
  simp only[IntKind.bits,IntKind.signed,Bool.false_and,Bool.false_eq_true,if_false]
  have:(2:Int) ^ 64=((18446744073709551616:Nat):Int):=by decide
  rw[this,show(m:Int) - n=((m - n:Nat):Int) by omega,←Int.natCast_emod,Nat.mod_eq_of_lt (by omega)]
 have h:=run_subW (P:=P) (w:=w) (d:=d) (T:=T) (T':=T') (ty:=ty) (pos:=pos) (af:=af) (k:=.u64) hx hy
 rw[h,e]
theorem rot_and:∀n:Fin 32,n.val≠0→IntKind.u64.wrap (((BitVec.ofInt 64 (IntKind.u64.wrap (-(n.val:Int)))) &&& (BitVec.ofInt 64 31)).toNat:Int)=((32 - n.val:Nat):Int):=by decide
theorem run_rotS{n:Nat} (h1:1≤n) (h2:n≤31) (hx:ev f x=.int .u64 (IntKind.u64.wrap (-(n:Int)))) (hy:ev f y=.int .u64 31):(execOp (ev f) ⟨d,.binOp .and T x y T',ty,pos,af,none⟩).run P w=.ok (.value (.int .u64 ((32 - n:Nat):Int))) w:=by
 have h:=rot_and ⟨n,by omega⟩ (by show n≠0;omega)
 have h':(Op.intBits .and .u64 (IntKind.u64.wrap (-(n:Int))) 31).run P w=.ok (.int .u64 ((32 - n:Nat):Int)) w:=by
  simp only[Op.intBits,IntKind.bits]
  exact congrArg (fun n=>(Result.ok (Value.int .u64 n) w:Result Value)) h
 simp[execOp,hx,hy,go_sem]
 simpa[go_sem] using h'
end
end Go.Gx
namespace Go.Gx
open Go.Proofs List
theorem rotl_spec{a:Wd}{n:Nat} (h1:1≤n) (h2:n≤31) (w:World):CP 202 #[wv a,.int .i64 (-(n:Int))] w (Ret0 (wv (rotr a n)) w):=by
 have hs:Step [] [] w w:=Step.refl w
 refine calls (n:=17) Tryz.func202 rfl rfl rfl ?_
 refine sr<|wA<|wZ<|sr<|wm<|wV (run_convInt u3 u174 rfl)<|wV (run_rotS h1 h2 rfl rfl)<|wA<|wZ<|sr<|wm<|wm<|wV (run_shl32 (n:=32 - n) (by omega) rfl rfl)<|wm<|wm<|wV (run_subU (m:=32) (n:=32 - n) rfl rfl (by omega) (by omega))<|wV (run_shr32 (n:=32 - (32 - n)) (by omega) rfl rfl)<|wV (run_or32 rfl rfl)<|wA<|wZ ?_
 refine CW.ret ?_
 refine fin_ret1 rfl ?_
 refine⟨?_,hs⟩
 rw[show rotr a n=(a <<< (32 - n) ||| a >>> (32 - (32 - n))) by rw[rotr,show 32 - (32 - n)=n by omega]]
 rfl
theorem right_spec{a:Wd}{n:Nat} (h1:1≤n) (h2:n≤31) (w:World):CP 201 #[wv a,.int .i64 n] w (Ret0 (wv (rotr a n)) w):=by
 have hs:Step [] [] w w:=Step.refl w
 refine calls (n:=9) Tryz.func201 rfl rfl rfl ?_
 refine sr<|wA<|wZ<|sr<|wm<|wm<|wV (run_neg64 rfl (by omega))<|wE rfl (run_call en202 rfl rfl) (rotl_spec h1 h2 _) ?_
 rintro e w ⟨rfl,hq⟩
 refine⟨_,rfl,?_⟩
 replace hs:=hs.callE hq
 refine wA<|wZ<|CW.ret ?_
 refine fin_ret1 rfl ?_
 exact⟨rfl,hs⟩
end Go.Gx
namespace Go.Gx
section
variable{P:Program}{f:Slots}{w:World}{d:Option Tmp}{ty:TypeId}{pos:String}{af:Array Edge}{x y:Operand}{T E:TypeId}{k:IntKind}
theorem run_ixAgg{m bytes i:Nat}{zs cs:List Value}{v:Value} (ht:P.underlying T=some (.array m E)) (hE:Ty P E false 1 bytes zs) (hx:ev f x=.agg cs.toArray) (hy:ev f y=.int k i) (hi:i<m) (hv:cs[i]?=some v) :
  (execOp (ev f) ⟨d,.index T x y,ty,pos,af,none⟩).run P w=.ok (.value v) w:=by
 have h1:(part E cs.toArray (i*1)).run P w=.ok v w:=by
  simp[part,run_isAgg hE,hv]
 have h2:=run_sizeOf hE w
 simp[execOp,hx,hy,Instr.index,asIntOf,run_underlying ht,hi,h2,h1]
 rw[Nat.mul_one] at h1
 rw[h1]
 rfl
end
theorem wvs_len (l:List Wd):(wvs l).length=l.length:=List.length_map ..
theorem wvs_get{l:List Wd}{i:Nat} (h:i<l.length):(wvs l)[i]?=some (wv (l.getD i 0)):=by
 rw[wvs,List.getElem?_map,List.getElem?_eq_getElem h,List.getD_eq_getElem?_getD,List.getElem?_eq_getElem h]
 rfl
theorem wvs_set (l:List Wd) (i:Nat) (x:Wd):(wvs l).set i (wv x)=wvs (l.set i x):=(List.map_set ..).symm
theorem u8s_get{l:U8}{i:Nat} (h:i<l.length):(u8s l)[i]?=some (.int .u8 (l.getD i 0).toNat):=by
 rw[u8s,List.getElem?_map,List.getElem?_eq_getElem h,List.getD_eq_getElem?_getD,List.getElem?_eq_getElem h]
 rfl
def accW (b:(List UInt8)) (o:Nat):Nat→Wd
 | 0=>0
 | k+1=>accW b o k <<< 8 ||| byW (b.getD (o+k) 0)
theorem accW_word (b:U8) (t:Nat):accW b (4*t) 4=wordB b t:=by
 simp only[accW,wordB,BitVec.shiftLeft_or_distrib,←BitVec.shiftLeft_add,Nat.add_zero]
 rw[show(0:Wd) <<< (8+8+8+8)=0#32 by decide,BitVec.zero_or]
theorem sched_len (b:U8):∀t,(sched b t).length=t
 | 0=>rfl
 | t+1=>by simp[sched,sched_len b t]
def schedA (b:(List UInt8)) (t:Nat):List Wd:=sched b t++List.replicate (64 - t) 0
theorem schedA_len{b:U8}{t:Nat} (h:t≤64):(schedA b t).length=64:=by simp[schedA,sched_len];omega
def schedM (b:(List UInt8)) (t:Nat) (x:Wd):List Wd:=sched b t++x::List.replicate (63 - t) 0
theorem schedM_len{b:U8}{t:Nat}{x:Wd} (h:t<64):(schedM b t x).length=64:=by simp[schedM,sched_len];omega
theorem schedM_zero{b:U8}{t:Nat} (h:t<64):schedM b t 0=schedA b t:=by
 rw[schedM,schedA,show 64 - t=(63 - t)+1 by omega,List.replicate_succ]
theorem schedM_set{b:U8}{t:Nat}{x y:Wd} (h:t<64):(schedM b t x).set t y=schedM b t y:=by
 rw[schedM,List.set_append,sched_len,if_neg (Nat.lt_irrefl t),Nat.sub_self]
 rfl
theorem schedM_at{b:U8}{t:Nat}{x:Wd}:(schedM b t x).getD t 0=x:=by
 rw[schedM,List.getD_eq_getElem?_getD,List.getElem?_append_right (by rw[sched_len];exact Nat.le_refl _),sched_len,Nat.sub_self]
 rfl
theorem schedM_word{b:U8}{t:Nat} (h:t<16):schedM b t (wordB b t)=schedA b (t+1):=by
 rw[schedM,schedA,sched,if_pos h,show 64 - (t+1)=63 - t by omega]
 simp
theorem schedM_next{b:U8}{t:Nat} (h:16≤t):schedM b t (wNext (sched b t) t)=schedA b (t+1):=by
 rw[schedM,schedA,sched,if_neg (by omega),show 64 - (t+1)=63 - t by omega]
 simp
theorem schedA_get{b:U8}{t j:Nat} (h:j<t):(schedA b t).getD j 0=(sched b t).getD j 0:=by
 rw[List.getD_eq_getElem?_getD,List.getD_eq_getElem?_getD,schedA,List.getElem?_append_left (by rw[sched_len];exact h)]
theorem wNext_A{b:U8}{t:Nat} (h:16≤t):wNext (schedA b t) t=wNext (sched b t) t:=by
 unfold wNext
 rw[schedA_get (by omega),schedA_get (by omega),schedA_get (by omega),schedA_get (by omega)]
theorem schedA_all (b:U8):schedA b 64=sched b 64:=by simp[schedA]
theorem kL_len:kL.length=64:=rfl
def hcs (s:St8) (bg:Bool) (rest:(List UInt8)) (n:Nat):List Value:=wvs s.l++.bool bg::(u8s rest++[.int .i64 n])
def cur (bg:Bool) (s:St8):St8:=if bg then s else iv8
structure HInv (d:(List UInt8)) (s:St8) (bg:Bool) (rest:(List UInt8)):Prop where
 len:rest.length=64
 st:cur bg s=stBlocks d (d.length / 64)
 rest:rest.take (d.length % 64)=d.drop (64*(d.length / 64))
theorem stBlocks_append{d x:U8}:∀{q:Nat},64*q≤d.length→stBlocks (d++x) q=stBlocks d q
 | 0,_=>rfl
 | q+1,h=>by
  rw[stBlocks,stBlocks,stBlocks_append (by omega),List.drop_append_of_le_length (by omega),List.take_append_of_le_length (by rw[List.length_drop];omega)]
def restW (rest:(List UInt8)) (a:Nat) (y:(List UInt8)):(List UInt8):=rest.take a++y++rest.drop (a+y.length)
theorem restW_len{rest:U8}{a:Nat}{y:U8} (h:rest.length=64) (ha:a+y.length≤64):(restW rest a y).length=64:=by simp[restW];omega
theorem HInv.zero:HInv [] ⟨0,0,0,0,0,0,0,0⟩ false (List.replicate 64 0):=⟨by simp,rfl,by simp⟩
theorem HInv.part{d:U8}{s:St8}{bg:Bool}{rest y:U8} (h:HInv d s bg rest) (hy:d.length % 64+y.length<64):HInv (d++y) s bg (restW rest (d.length % 64) y):=by
 obtain⟨h1,h2,h3⟩:=h
 have e1:(d++y).length / 64=d.length / 64:=by rw[List.length_append];omega
 have e2:(d++y).length % 64=d.length % 64+y.length:=by rw[List.length_append];omega
 refine⟨restW_len h1 (by omega),?_,?_⟩
 ·rw[e1,stBlocks_append (by omega)];exact h2
 ·rw[e1,e2,List.drop_append_of_le_length (by omega),←h3,restW]
  have hl:(rest.take (d.length % 64)++y).length=d.length % 64+y.length:=by simp;omega
  rw[←hl,List.take_left]
theorem HInv.full{d:U8}{s:St8}{bg:Bool}{rest y:U8} (h:HInv d s bg rest) (hy:d.length % 64+y.length=64):HInv (d++y) (stBlock (cur bg s) (restW rest (d.length % 64) y)) true (restW rest (d.length % 64) y):=by
 obtain⟨h1,h2,h3⟩:=h
 have e1:(d++y).length / 64=d.length / 64+1:=by rw[List.length_append];omega
 have e2:(d++y).length % 64=0:=by rw[List.length_append];omega
 have e3:(d++y).drop (64*(d.length / 64))=restW rest (d.length % 64) y:=by
  rw[List.drop_append_of_le_length (by omega),←h3,restW,List.drop_of_length_le (by omega:rest.length≤d.length % 64+y.length),List.append_nil]
 have hl:=restW_len (rest:=rest) (a:=d.length % 64) (y:=y) h1 (by omega)
 refine⟨hl,?_,?_⟩
 ·rw[e1,stBlocks,e3,stBlocks_append (d:=d) (x:=y) (q:=d.length / 64) (by omega),List.take_of_length_le (Nat.le_of_eq hl),←h2];rfl
 ·rw[e1,e2,List.take_zero,List.drop_of_length_le (by rw[List.length_append];omega)]
theorem hcs_len{s:St8}{bg:Bool}{rest:U8}{n:Nat} (h:rest.length=64):(hcs s bg rest n).length=74:=by
 simp[hcs,wvs_len,u8s,h,St8.l]
theorem hcs_copy{s:St8}{bg:Bool}{rest y:U8}{n a:Nat} (h:rest.length=64) (ha:a+y.length≤64):splice (hcs s bg rest n) (9+a) (u8s y)=hcs s bg (restW rest a y) n:=by
 have e:hcs s bg rest n=(wvs s.l++[Value.bool bg]++u8s (rest.take a))++(u8s (rest.drop a)++[Value.int .i64 n]):=by
  rw[hcs,show u8s rest=u8s (rest.take a)++u8s (rest.drop a) by rw[u8s,u8s,u8s,←List.map_append,List.take_append_drop]]
  simp
 have hl:(wvs s.l++[Value.bool bg]++u8s (rest.take a)).length=9+a:=by simp[wvs_len,u8s,St8.l];omega
 have hyl:(u8s y).length=y.length:=by rw[u8s,List.length_map]
 rw[e,←hl,splice_end _ _ _ (by simp[u8s];omega),hcs,restW]
 have e2:(u8s (rest.drop a)++[Value.int .i64 n]).drop (u8s y).length=u8s (rest.drop (a+y.length))++[Value.int .i64 n]:=by
  rw[List.drop_append_of_le_length (by simp[u8s];omega),hyl,u8s,u8s,←List.map_drop,List.drop_drop]
 rw[e2]
 simp[u8s]
theorem hcs_setN{s:St8}{bg:Bool}{rest:U8}{n m:Nat} (h:rest.length=64):(hcs s bg rest n).set 73 (.int .i64 m)=hcs s bg rest m:=by
 have hl:(wvs s.l++Value.bool bg::u8s rest).length=73:=by simp[wvs_len,u8s,h,St8.l]
 have e:∀k:Nat,hcs s bg rest k=(wvs s.l++Value.bool bg::u8s rest)++[Value.int .i64 k]:=fun k=>by simp[hcs]
 rw[e,e,List.set_append,hl,if_neg (by omega)]
 rfl
theorem hcs_n{s:St8}{bg:Bool}{rest:U8}{n:Nat} (h:rest.length=64):(hcs s bg rest n)[73]?=some (.int .i64 n):=by
 have hl:(wvs s.l++Value.bool bg::u8s rest).length=73:=by simp[wvs_len,u8s,h,St8.l]
 have e:hcs s bg rest n=(wvs s.l++Value.bool bg::u8s rest)++[Value.int .i64 n]:=by simp[hcs]
 rw[e,List.getElem?_append_right (by omega),hl]
 rfl
section
variable{P:Program}{f:Slots}{w:World}{d:Option Tmp}{ty:TypeId}{pos:String}{af:Array Edge}{x y:Operand}{T T' E:TypeId}{k:IntKind}
theorem run_remN{n m:Nat} (hx:ev f x=.int k n) (hy:ev f y=.int k m) (hm:m≠0):(execOp (ev f) ⟨d,.binOp .rem T x y T',ty,pos,af,none⟩).run P w=.ok (.value (.int k ((n % m:Nat):Int))) w:=by
 rw[run_rem hx hy (by omega),Int.ofNat_tmod]
theorem run_sliceArrE{agg:Bool}{n bytes:Nat}{zs:List Value}{bk off lo hi m:Nat}{v:Value}{xl xh:Option Operand} (ht:P.underlying T=some (.array m E)) (hE:Ty P E agg n bytes zs) (hx:ev f x=.pointer (some ⟨bk,off,none⟩))
  (hl:LoOk (xl.map (ev f)) lo) (hh:HiOk (xh.map (ev f)) hi m) (h1:lo≤hi) (h2:hi≤m) (hv:cutSl n bk off lo hi m=v):(execOp (ev f) ⟨d,.slice T x xl xh none,ty,pos,af,none⟩).run P w=.ok (.value v) w:=by
 rw[←hv]
 exact run_sliceArr ht hE hx hl hh h1 h2
end
end Go.Gx
namespace Go.Gx
open Go.Proofs List
theorem bld_rounds (w:World):(Instr.build 302 (toArray [(0,.int .u32 1116352408),(1,.int .u32 1899447441),(2,.int .u32 3049323471),(3,.int .u32 3921009573),(4,.int .u32 961987163),(5,.int .u32 1508970993),(6,.int .u32 2453635748),(7,.int .u32 2870763221),(8,.int .u32 3624381080),(9,.int .u32 310598401),(10,.int .u32 607225278),(11,.int .u32 1426881987),(12,.int .u32 1925078388),(13,.int .u32 2162078206),(14,.int .u32 2614888103),(15,.int .u32 3248222580),(16,.int .u32 3835390401),(17,.int .u32 4022224774),(18,.int .u32 264347078),(19,.int .u32 604807628),(20,.int .u32 770255983),(21,.int .u32 1249150122),(22,.int .u32 1555081692),(23,.int .u32 1996064986),(24,.int .u32 2554220882),(25,.int .u32 2821834349),(26,.int .u32 2952996808),(27,.int .u32 3210313671),(28,.int .u32 3336571891),(29,.int .u32 3584528711),(30,.int .u32 113926993),(31,.int .u32 338241895),(32,.int .u32 666307205),(33,.int .u32 773529912),(34,.int .u32 1294757372),(35,.int .u32 1396182291),(36,.int .u32 1695183700),(37,.int .u32 1986661051),(38,.int .u32 2177026350),(39,.int .u32 2456956037),(40,.int .u32 2730485921),(41,.int .u32 2820302411),(42,.int .u32 3259730800),(43,.int .u32 3345764771),(44,.int .u32 3516065817),(45,.int .u32 3600352804),(46,.int .u32 4094571909),(47,.int .u32 275423344),(48,.int .u32 430227734),(49,.int .u32 506948616),(50,.int .u32 659060556),(51,.int .u32 883997877),(52,.int .u32 958139571),(53,.int .u32 1322822218),(54,.int .u32 1537002063),(55,.int .u32 1747873779),(56,.int .u32 1955562222),(57,.int .u32 2024104815),(58,.int .u32 2227730452),(59,.int .u32 2361852424),(60,.int .u32 2428436474),(61,.int .u32 2756734187),(62,.int .u32 3204031479),(63,.int .u32 3329325298)])).run Tryz.prog w=.ok (.agg (wvs kL).toArray) w:=by kernel_rfl
theorem bld_iv (w:World):(Instr.build 291 (toArray [(0,.int .u32 1779033703),(1,.int .u32 3144134277),(2,.int .u32 1013904242),(3,.int .u32 2773480762),(4,.int .u32 1359893119),(5,.int .u32 2600822924),(6,.int .u32 528734635),(7,.int .u32 1541459225)])).run Tryz.prog w=.ok (.agg (wvs iv8.l).toArray) w:=by kernel_rfl
theorem Cells1.wvs (l:List Wd):Cells1 (wvs l):=fun v hv=>by
 have ob:=mem_map.1 hv
 obtain⟨x,_,rfl⟩:=ob
 rfl
theorem rounds_spec (w:World):CP 200 #[] w (Ret0 (.agg (wvs kL).toArray) w):=by
 have hs:Step [] [] w w:=Step.refl w
 refine calls (n:=2) Tryz.func200 rfl rfl rfl ?_
 refine sr<|WL.alloc ty302 rfl hs (fun b0 w hs=>?_)
 refine wZ<|sr<|wV (run_build rfl (bld_rounds _))<|WL.storeAll ty302 rfl rfl ((by rfl)) (Cells1.wvs _) hs (by rfl) (fun w hs=>?_)
 refine wZ<|CW.ret ?_
 refine fin_cell1 rfl rfl (run_loadVarN ty302 (by rfl) hs.a0) ?_
 exact⟨rfl,hs.clear⟩
theorem state_spec{b:Nat}{s:St8}{bg:Bool}{rest:U8}{n:Nat} (w0:World) (hb:w0.heap[b]?=some (blk 300 (hcs s bg rest n))) :
  CP 194 #[pt b] w0 (Ret0 (.agg (wvs (cur bg s).l).toArray) w0):=by
 have hs:Step [] [] w0 w0:=Step.refl w0
 have hat:At w0 b 0 (hcs s bg rest n):=At.of_blk hb
 cases bg
 ·refine calls (n:=12) Tryz.func194 rfl rfl rfl ?_
  refine sr<|WL.alloc ty291 rfl hs (fun b2 w hs=>?_)
  refine wZ<|cq<|sr<|wm<|wn rfl<|wF 8 u300 rfl ty4 rfl<|wl ty4 rfl ((hat.step hs (by simp)).cell (j:=8) rfl)<|wZ<|CW.cond rfl (fun h=>?_) (fun h=>?_)
  ·cases h
  ·refine ck<|sr<|wV (run_build rfl (bld_iv _))<|WL.storeAll ty291 rfl rfl ((by rfl)) (Cells1.wvs _) hs (by rfl) (fun w hs=>?_)
   refine wZ<|CW.ret ?_
   refine fin_cell1 rfl rfl (run_loadVarN ty291 (by rfl) hs.a0) ?_
   exact⟨rfl,hs.clear⟩
 ·refine calls (n:=12) Tryz.func194 rfl rfl rfl ?_
  refine sr<|WL.alloc ty291 rfl hs (fun b2 w hs=>?_)
  refine wZ<|cq<|sr<|wm<|wn rfl<|wF 8 u300 rfl ty4 rfl<|wl ty4 rfl ((hat.step hs (by simp)).cell (j:=8) rfl)<|wZ<|CW.cond rfl (fun h=>?_) (fun h=>?_)
  ·refine sr<|wm<|wn rfl<|wF 0 u300 rfl ty291 rfl<|wR ty291 rfl (by rfl) ((hat.step hs (by simp)).left)<|WL.storeAll ty291 rfl rfl ((by rfl)) (Cells1.wvs _) hs (by rfl) (fun w hs=>?_)
   refine wZ<|CW.ret ?_
   refine fin_cell1 rfl rfl (run_loadVarN ty291 (by rfl) hs.a0) ?_
   exact⟨rfl,hs.clear⟩
  ·cases h
theorem hcs_rest{s:St8}{bg:Bool}{rest:U8}{n j:Nat} (hj:j<rest.length):(hcs s bg rest n)[9+j]?=some (.int .u8 (rest.getD j 0).toNat):=by
 rw[Nat.add_comm 9 j]
 show(u8s rest++[Value.int .i64 n])[j]?=_
 rw[getElem?_append_left (by rw[u8s,length_map];exact hj),u8s_get hj]
theorem rsp{a:Wd} (n:Nat) (h1:1≤n) (h2:n≤31) (w:World):CP 201 #[wv a,.int .i64 n] w (Ret0 (wv (rotr a n)) w):=right_spec h1 h2 w
theorem wNext_eq (l:List Wd) (t:Nat):l.getD (t - 16) 0+(rotr (l.getD (t - 15) 0) 7 ^^^ rotr (l.getD (t - 15) 0) 18 ^^^ l.getD (t - 15) 0 >>> 3)+l.getD (t - 7) 0+(rotr (l.getD (t - 2) 0) 17 ^^^ rotr (l.getD (t - 2) 0) 19 ^^^ l.getD (t - 2) 0 >>> 10)=wNext l t:=rfl
theorem schedA_set{b:U8}{t:Nat}{x:Wd} (h:t<64):(schedA b t).set t x=schedM b t x:=by rw[←schedM_zero h,schedM_set h]
theorem stRounds_succ (s:St8) (W:List Wd) (t:Nat):stRounds s W (t+1)=stStep (stRounds s W t) (kL.getD t 0) (W.getD t 0):=rfl
theorem stRounds_zero (s:St8) (W:List Wd):stRounds s W 0=s:=rfl
theorem stBlock_eq (s:St8) (b:U8):stBlock s b=stAdd s (stRounds s (sched b 64) 64):=rfl
def mixW (s S r:St8) (i:Nat):List Wd:=(stAdd S r).l.take i++s.l.drop i
theorem mixW_set{s S r:St8}{i:Nat}{l:List Value} (hi:i<8):(wvs (mixW s S r i)++l).set (0+0+i*1) (wv (S.l.getD i 0+r.l.getD i 0))=wvs (mixW s S r (i+1))++l:=by
 match i,hi with
 | 0,_=>rfl
 | 1,_=>rfl
 | 2,_=>rfl
 | 3,_=>rfl
 | 4,_=>rfl
 | 5,_=>rfl
 | 6,_=>rfl
 | 7,_=>rfl
theorem mixW_len{s S r:St8}{i:Nat} (hi:i≤8):(wvs (mixW s S r i)).length=8:=by
 rw[wvs_len,mixW,length_append,length_take,length_drop]
 show min i 8+(8 - i)=8
 omega
theorem St8_get{r:St8}{i:Nat} (hi:i<8):(wvs r.l)[i]?=some (wv (r.l.getD i 0)):=wvs_get hi
theorem accW_zero (b:U8) (o:Nat):accW b o 0=0:=rfl
theorem accW_succ (b:U8) (o k:Nat):accW b o (k+1)=accW b o k <<< 8 ||| byW (b.getD (o+k) 0):=rfl
theorem wvs_kL:(wvs kL).length=64:=rfl
theorem schedA_zero (b:U8):List.replicate 64 (Value.int .u32 0)=wvs (schedA b 0):=rfl
attribute [local irreducible] kL sched schedA schedM accW wordB wNext stRounds stBlock
theorem block_words{b:Nat}{s:St8}{bg:Bool}{rest:U8}{n:Nat} (hr:rest.length=64) (w0:World) (hb:w0.heap[b]?=some (blk 300 (hcs s bg rest n))) :
  CP 193 #[pt b,.slice (some ⟨b,9,none⟩) 64 64] w0 (fun e w'=>e=.returned (.tuple #[])∧Step [b] [(b,blk 300 (hcs (stBlock (cur bg s) rest) true rest n))] w0 w'):=by
 have hs:Step [b] [(b,blk 300 (hcs s bg rest n))] w0 w0:=Step.start (L:=[(b,blk 300 (hcs s bg rest n))]) (by simp) (by simpa using hb)
 refine calls (n:=195) Tryz.func193 rfl rfl rfl ?_
 refine sr<|wE rfl (run_call en200 rfl rfl) (rounds_spec _) ?_
 rintro e w ⟨rfl,hq⟩
 refine⟨_,rfl,?_⟩
 replace hs:=hs.callE hq
 refine WL.alloc ty302 rfl hs (fun b4 w hs=>?_)
 refine WL.storeAll ty302 rfl rfl ((wvs_kL)) (Cells1.wvs _) hs (by rfl) (fun w hs=>?_)
 refine wZ<|sr<|WL.alloc ty302 rfl hs (fun b5 w hs=>?_)
 refine wZ ?_
 rw[schedA_zero rest] at hs
 refine cq<|sr<|wm<|wZ<|cB<|CW.loop (fun m f w'=>∃t,t≤16∧m=16 - t∧Step [b] [(b5,blk 302 (wvs (schedA rest t))),(b4,blk 302 (wvs kL)),(b,blk 300 (hcs s bg rest n))] w0 w'∧Holds f [(0,pt b),(1,.slice (some ⟨b,9,none⟩) 64 64),(4,pt b4),(5,pt b5),(22,.int .i64 (t:Nat))]) (m:=16) ?_ ?_
 ·exact⟨0,by omega,rfl,hs,rfl,rfl,rfl,rfl,rfl,trivial⟩
 ·clear hs
  rintro m f w ⟨t,ht,rfl,hs,hf⟩
  have ob:=hf.chain
  obtain⟨g,rfl⟩:=ob
  refine sr<|wV (run_lss rfl rfl)<|wZ<|cq<|CW.condP rfl (fun h=>?_) (fun h=>?_)
  ·have hlt:t<16:=by omega
   have hcut:cutSl 1 b 9 (4*t) (4*t+4) 64=.slice (some ⟨b,9+4*t,none⟩) 4 (64 - 4*t):=by
    rw[cutSl,if_neg (by omega),Nat.mul_one,show 4*t+4 - 4*t=4 by omega]
   refine ck<|cq<|cB<|sr<|wm<|wA<|wZ<|sr<|wm<|wm<|wV (run_mul (c:=((4*t:Nat):Int)) rfl rfl (by omega) (by omega))<|wm<|wV (run_mul (c:=((4*t:Nat):Int)) rfl rfl (by omega) (by omega))<|wP ((4*t+4:Nat):Int)<|wV (run_sliceSlE (lo:=4*t) (hi:=4*t+4) (m:=64) u76 ty5 rfl rfl rfl rfl (by simp) (by omega) (by omega) (by omega) hcut)<|wL u76 rfl<|wm<|wZ ?_
   rw[←schedM_zero (by omega)] at hs
   refine cB<|CW.loop (fun m f w'=>∃k,k≤4∧m=4 - k∧Step [b] [(b5,blk 302 (wvs (schedM rest t (accW rest (4*t) k)))),(b4,blk 302 (wvs kL)),(b,blk 300 (hcs s bg rest n))] w0 w'∧Holds f [(0,pt b),(1,.slice (some ⟨b,9,none⟩) 64 64),(4,pt b4),(5,pt b5),(6,.int .i64 (t:Nat)),(22,.int .i64 (t:Nat)),(31,.slice (some ⟨b,9+4*t,none⟩) 4 (64 - 4*t)),(32,.int .i64 (4:Nat)),(33,.int .i64 (k:Nat))]) (m:=4) ?_ ?_
   ·exact⟨0,by omega,rfl,by rw[accW_zero];exact hs,rfl,rfl,rfl,rfl,rfl,rfl,rfl,rfl,rfl,trivial⟩
   ·clear hs
    rintro m f w ⟨k,hk,rfl,hs,hf⟩
    have ob:=hf.chain
    obtain⟨g,rfl⟩:=ob
    refine sr<|wV (run_lss rfl rfl)<|wZ<|cq<|CW.condP rfl (fun h2=>?_) (fun h2=>?_)
    ·have hlk:k<4:=by omega
     have hc1:(hcs s bg rest n)[9+4*t+k*1]?=some (.int .u8 (rest.getD (4*t+k) 0).toNat):=by
      rw[Nat.mul_one,Nat.add_assoc];exact hcs_rest (by omega)
     have hln:(wvs (schedM rest t (accW rest (4*t) k))).length=64:=by rw[wvs_len,schedM_len (by omega)]
     have hc2:(wvs (schedM rest t (accW rest (4*t) k)))[0+t*1]?=some (wv (accW rest (4*t) k)):=by
      rw[Nat.mul_one,Nat.zero_add,wvs_get (by rw[schedM_len (by omega)];omega),schedM_at]
     have hset:(wvs (schedM rest t (accW rest (4*t) k))).set (0+t*1) (wv (accW rest (4*t) k <<< 8 ||| byW (rest.getD (4*t+k) 0)))=wvs (schedM rest t (accW rest (4*t) (k+1))):=by
      rw[Nat.mul_one,Nat.zero_add,wvs_set,schedM_set (by omega),accW_succ]
     refine ck<|cq<|cB<|sr<|wI u76 ty5 rfl rfl<|wl ty5 rfl (hs.c2 hc1)<|wA<|wZ<|cr<|wm<|wm<|wV (run_ixArrN u302 ty281 rfl rfl (by omega))<|wl ty281 rfl (hs.c0 hc2)<|wV (run_shl32 (n:=8) (by decide) rfl rfl)<|wm<|wV (run_to32 u5 u281 rfl)<|wV (run_or32 rfl rfl)<|wV (run_ixArrN u302 ty281 rfl rfl (by omega)) ?_
     refine ws1 ty281 rfl rfl (rfl) hs (fun w hs=>?_)
     refine wZ ?_
     replace hs:=(congrArg (fun cs=>Step [b] [(b5,blk 302 cs),(b4,blk 302 (wvs kL)),(b,blk 300 (hcs s bg rest n))] w0 w) hset).mp hs
     refine cr<|wP ((k+1:Nat):Int)<|wm<|wZ<|(show _∧_ from⟨rfl,_,?_,k+1,by omega,rfl,hs,rfl,rfl,rfl,rfl,rfl,rfl,rfl,rfl,rfl,trivial⟩)
     omega
    ·obtain rfl:k=4:=by omega
     rw[accW_word,schedM_word hlt] at hs
     refine CW.exit<|cr<|wP ((t+1:Nat):Int)<|wm<|wZ<|(show _∧_ from⟨rfl,_,?_,t+1,by omega,rfl,hs,rfl,rfl,rfl,rfl,rfl,trivial⟩)
     omega
  ·obtain rfl:t=16:=by omega
   refine CW.exit<|sr<|wA<|wZ<|cq<|sr<|wA<|wZ<|cB<|CW.loop (fun m f w'=>∃t,16≤t∧t≤64∧m=64 - t∧Step [b] [(b5,blk 302 (wvs (schedA rest t))),(b4,blk 302 (wvs kL)),(b,blk 300 (hcs s bg rest n))] w0 w'∧Holds f [(0,pt b),(1,.slice (some ⟨b,9,none⟩) 64 64),(4,pt b4),(5,pt b5),(9,.func (.func 201) #[] #[]),(10,.int .i64 (t:Nat))]) (m:=48) ?_ ?_
   ·exact⟨16,by omega,by omega,rfl,hs,rfl,rfl,rfl,rfl,rfl,rfl,trivial⟩
   ·clear hs
    rintro m f w ⟨t,ht1,ht,rfl,hs,hf⟩
    have ob:=hf.chain
    obtain⟨g,rfl⟩:=ob
    refine cq<|sr<|wm<|wV (run_lss rfl rfl)<|wZ<|CW.condP rfl (fun h=>?_) (fun h=>?_)
    ·have hlt:t<64:=by omega
     have ob:∃l,schedA rest t=l:=⟨_,rfl⟩
     obtain⟨l,hl⟩:=ob
     have hll:l.length=64:=by rw[←hl];exact schedA_len ht
     rw[hl] at hs
     have hg:∀j,j≤t→(wvs l)[0+(t - j)*1]?=some (wv (l.getD (t - j) 0)):=fun j hj=>by rw[Nat.mul_one,Nat.zero_add];exact wvs_get (by omega)
     have hset:(wvs l).set (0+t*1) (wv (l.getD (t - 16) 0+(rotr (l.getD (t - 15) 0) 7 ^^^ rotr (l.getD (t - 15) 0) 18 ^^^ l.getD (t - 15) 0 >>> 3)+l.getD (t - 7) 0+(rotr (l.getD (t - 2) 0) 17 ^^^ rotr (l.getD (t - 2) 0) 19 ^^^ l.getD (t - 2) 0 >>> 10)))=wvs (schedA rest (t+1)):=by
      rw[wNext_eq,Nat.mul_one,Nat.zero_add,wvs_set,←hl,schedA_set hlt,wNext_A ht1,schedM_next ht1]
     have hwl:(wvs l).length=64:=by rw[wvs_len,hll]
     refine ck<|cq<|cB<|cq<|CW.quiet mixedP (by kernel_rfl) hs ?_
     refine qm<|qV (fun w hs=>run_sub (c:=((t - 15:Nat):Int)) rfl rfl (by omega) (by omega))<|qV (fun w hs=>run_ixArrN u302 ty281 rfl rfl (by omega))<|qL ty281 rfl (fun w hs=>hs.c0 (hg 15 (by omega)))<|qm<|qV (fun w hs=>run_sub (c:=((t - 2:Nat):Int)) rfl rfl (by omega) (by omega))<|qV (fun w hs=>run_ixArrN u302 ty281 rfl rfl (by omega))<|qL ty281 rfl (fun w hs=>hs.c0 (hg 2 (by omega)))<|qA<|qA<|QL.nil (fun w hs=>?_)
     refine CW.quietT (l1:=[_,_,_,_,_,_,_,_,_,_,_,_,_,_,_,_,_,_,_,_,_,_,_,_,_,_,_,_,_,_,_,_,_]) (l2:=[_]) 33 rfl mixedP rfl (by kernel_rfl) hs ?_
     refine qm<|qm<|qV (fun w hs=>run_sub (c:=((t - 16:Nat):Int)) rfl rfl (by omega) (by omega))<|qV (fun w hs=>run_ixArrN u302 ty281 rfl rfl (by omega))<|qL ty281 rfl (fun w hs=>hs.c0 (hg 16 (by omega)))<|qm<|qm<|QL.enter rfl (fun w=>run_callV (cap:=[]) en201 rfl rfl) (fun w hs=>rsp 7 (by decide) (by decide) _) ?_
     refine qm<|qm<|QL.enter rfl (fun w=>run_callV (cap:=[]) en201 rfl rfl) (fun w hs=>rsp 18 (by decide) (by decide) _) ?_
     refine qV (fun w hs=>run_xor32 rfl rfl)<|qm<|qV (fun w hs=>run_shr32 (n:=3) (by decide) rfl rfl)<|qV (fun w hs=>run_xor32 rfl rfl)<|qV (fun w hs=>run_add32 rfl rfl)<|qm<|qV (fun w hs=>run_sub (c:=((t - 7:Nat):Int)) rfl rfl (by omega) (by omega))<|qV (fun w hs=>run_ixArrN u302 ty281 rfl rfl (by omega))<|qL ty281 rfl (fun w hs=>hs.c0 (hg 7 (by omega)))<|qV (fun w hs=>run_add32 rfl rfl)<|qm<|qm<|QL.enter rfl (fun w=>run_callV (cap:=[]) en201 rfl rfl) (fun w hs=>rsp 17 (by decide) (by decide) _) ?_
     refine qm<|qm<|QL.enter rfl (fun w=>run_callV (cap:=[]) en201 rfl rfl) (fun w hs=>rsp 19 (by decide) (by decide) _) ?_
     refine qV (fun w hs=>run_xor32 rfl rfl)<|qm<|qV (fun w hs=>run_shr32 (n:=10) (by decide) rfl rfl)<|qV (fun w hs=>run_xor32 rfl rfl)<|qV (fun w hs=>run_add32 rfl rfl)<|qV (fun w hs=>run_ixArrN u302 ty281 rfl rfl (by omega))<|QL.nil (fun w hs=>?_)
     refine ws1 ty281 rfl rfl (rfl) hs (fun w hs=>?_)
     refine wZ ?_
     replace hs:=(congrArg (fun cs=>Step [b] [(b5,blk 302 cs),(b4,blk 302 (wvs kL)),(b,blk 300 (hcs s bg rest n))] w0 w) hset).mp hs
     refine cr<|wm<|wP ((t+1:Nat):Int)<|wA<|wZ<|(show _∧_ from⟨rfl,_,?_,t+1,by omega,by omega,rfl,hs,rfl,rfl,rfl,rfl,rfl,rfl,trivial⟩)
     omega
    ·obtain rfl:t=64:=by omega
     have ob:∃W,sched rest 64=W:=⟨_,rfl⟩
     obtain⟨W,hW⟩:=ob
     have hWl:W.length=64:=by rw[←hW];exact sched_len _ _
     rw[schedA_all,hW] at hs
     have ob:∃S,cur bg s=S:=⟨_,rfl⟩
     obtain⟨S,hS⟩:=ob
     rw[stBlock_eq,hW,hS]
     refine CW.exit<|sr<|wm<|wE rfl (run_call en194 rfl rfl) (state_spec _ hs.tail.tail.hd) ?_
     rintro e w ⟨rfl,hq⟩
     refine⟨_,rfl,?_⟩
     replace hs:=hs.callE hq
     refine WL.alloc ty291 rfl hs (fun b13 w hs=>?_)
     refine WL.storeAll ty291 rfl rfl ((by rfl)) (Cells1.wvs _) hs (by rfl) (fun w hs=>?_)
     refine wZ ?_
     rw[hS] at hs
     refine cq<|sr<|wm<|wZ<|cB<|CW.loop (fun m f w'=>∃t,t≤64∧m=64 - t∧Step [b] [(b13,blk 291 (wvs (stRounds S W t).l)),(b5,blk 302 (wvs W)),(b4,blk 302 (wvs kL)),(b,blk 300 (hcs s bg rest n))] w0 w'∧Holds f [(0,pt b),(4,pt b4),(5,pt b5),(9,.func (.func 201) #[] #[]),(13,pt b13),(95,.int .i64 (t:Nat))]) (m:=64) ?_ ?_
     ·exact⟨0,by omega,rfl,by rw[stRounds_zero];exact hs,rfl,rfl,rfl,rfl,rfl,rfl,trivial⟩
     ·clear hs
      rintro m f w ⟨t,ht,rfl,hs,hf⟩
      have ob:=hf.chain
      obtain⟨g,rfl⟩:=ob
      refine sr<|wV (run_lss rfl rfl)<|wZ<|cq<|CW.condP rfl (fun h=>?_) (fun h=>?_)
      ·have hlt:t<64:=by omega
       have ob:∃st,stRounds S W t=st:=⟨_,rfl⟩
       obtain⟨st,hst⟩:=ob
       rw[hst] at hs
       have hk:(wvs kL)[0+t*1]?=some (wv (kL.getD t 0)):=by rw[Nat.mul_one,Nat.zero_add];exact wvs_get (by rw[kL_len];exact hlt)
       have hw:(wvs W)[0+t*1]?=some (wv (W.getD t 0)):=by rw[Nat.mul_one,Nat.zero_add];exact wvs_get (by omega)
       refine ck<|cq<|cB<|sr<|wm<|wA<|wZ<|cq<|CW.quiet mixedP (by kernel_rfl) hs ?_
       refine qV (fun w hs=>run_ixArrN (i:=0) u291 ty281 rfl rfl (by omega))<|qL ty281 rfl (fun w hs=>hs.c0 (v:=wv st.a) rfl)<|qV (fun w hs=>run_ixArrN (i:=4) u291 ty281 rfl rfl (by omega))<|qL ty281 rfl (fun w hs=>hs.c0 (v:=wv st.e) rfl)<|qA<|qA<|QL.nil (fun w hs=>?_)
       refine cq<|CW.quiet mixedP (by kernel_rfl) hs ?_
       refine qV (fun w hs=>run_ixArrN (i:=7) u291 ty281 rfl rfl (by omega))<|qL ty281 rfl (fun w hs=>hs.c0 (v:=wv st.h) rfl)<|qm<|qm<|QL.enter rfl (fun w=>run_callV (cap:=[]) en201 rfl rfl) (fun w hs=>rsp 6 (by decide) (by decide) _) ?_
       refine qm<|qm<|QL.enter rfl (fun w=>run_callV (cap:=[]) en201 rfl rfl) (fun w hs=>rsp 11 (by decide) (by decide) _) ?_
       refine qV (fun w hs=>run_xor32 rfl rfl)<|qm<|qm<|QL.enter rfl (fun w=>run_callV (cap:=[]) en201 rfl rfl) (fun w hs=>rsp 25 (by decide) (by decide) _) ?_
       refine qV (fun w hs=>run_xor32 rfl rfl)<|qV (fun w hs=>run_add32 rfl rfl)<|qm<|qV (fun w hs=>run_ixArrN (i:=5) u291 ty281 rfl rfl (by omega))<|qL ty281 rfl (fun w hs=>hs.c0 (v:=wv st.f) rfl)<|qV (fun w hs=>run_and32 rfl rfl)<|qm<|qV (fun w hs=>run_not32 rfl)<|qV (fun w hs=>run_ixArrN (i:=6) u291 ty281 rfl rfl (by omega))<|qL ty281 rfl (fun w hs=>hs.c0 (v:=wv st.g) rfl)<|qV (fun w hs=>run_and32 rfl rfl)<|qV (fun w hs=>run_xor32 rfl rfl)<|qV (fun w hs=>run_add32 rfl rfl)<|qm ?_
       refine qV (fun w hs=>run_ixArrN u302 ty281 rfl rfl (by omega))<|qL ty281 rfl (fun w hs=>hs.c2 hk)<|qV (fun w hs=>run_add32 rfl rfl)<|qm<|qV (fun w hs=>run_ixArrN u302 ty281 rfl rfl (by omega))<|qL ty281 rfl (fun w hs=>hs.c1 hw)<|qV (fun w hs=>run_add32 rfl rfl)<|qA<|QL.nil (fun w hs=>?_)
       refine cq<|CW.quiet mixedP (by kernel_rfl) hs ?_
       refine qm<|qm<|QL.enter rfl (fun w=>run_callV (cap:=[]) en201 rfl rfl) (fun w hs=>rsp 2 (by decide) (by decide) _) ?_
       refine qm<|qm<|QL.enter rfl (fun w=>run_callV (cap:=[]) en201 rfl rfl) (fun w hs=>rsp 13 (by decide) (by decide) _) ?_
       refine qV (fun w hs=>run_xor32 rfl rfl)<|qm<|qm<|QL.enter rfl (fun w=>run_callV (cap:=[]) en201 rfl rfl) (fun w hs=>rsp 22 (by decide) (by decide) _) ?_
       refine qV (fun w hs=>run_xor32 rfl rfl)<|qm<|qV (fun w hs=>run_ixArrN (i:=1) u291 ty281 rfl rfl (by omega))<|qL ty281 rfl (fun w hs=>hs.c0 (v:=wv st.b) rfl)<|qV (fun w hs=>run_and32 rfl rfl)<|qm<|qV (fun w hs=>run_ixArrN (i:=2) u291 ty281 rfl rfl (by omega))<|qL ty281 rfl (fun w hs=>hs.c0 (v:=wv st.c) rfl)<|qV (fun w hs=>run_and32 rfl rfl)<|qV (fun w hs=>run_xor32 rfl rfl)<|qV (fun w hs=>run_ixArrN (i:=1) u291 ty281 rfl rfl (by omega))<|qL ty281 rfl (fun w hs=>hs.c0 (v:=wv st.b) rfl)<|qV (fun w hs=>run_ixArrN (i:=2) u291 ty281 rfl rfl (by omega))<|qL ty281 rfl (fun w hs=>hs.c0 (v:=wv st.c) rfl) ?_
       refine qV (fun w hs=>run_and32 rfl rfl)<|qV (fun w hs=>run_xor32 rfl rfl)<|qV (fun w hs=>run_add32 rfl rfl)<|qA<|QL.nil (fun w hs=>?_)
       refine cq<|CW.quietT (l1:=[_,_]) (l2:=[_]) 2 rfl mixedP rfl (by kernel_rfl) hs ?_
       refine qV (fun w hs=>run_sliceArr (lo:=1) (hi:=8) (m:=8) u291 ty281 rfl rfl rfl (by decide) (by decide))<|qV (fun w hs=>run_sliceArr (lo:=0) (hi:=7) (m:=8) u291 ty281 rfl rfl rfl (by decide) (by decide))<|QL.nil (fun w hs=>?_)
       refine WL.copy u308 ty281 rfl rfl (hs) (Sl.mk (n:=7) (by rfl) (hs.a0.take 7)) ((Cells1.wvs _).take 7) (by exact Nat.le_of_ble_eq_true rfl) (fun k hk=>by cases hk;rfl) (fun w hs=>⟨fun k hk=>?_,fun h=>by cases h⟩)
       cases hk
       refine wZ ?_
       replace hs:=(congrArg (fun cs=>Step [b] [(b13,blk 291 cs),(b5,blk 302 (wvs W)),(b4,blk 302 (wvs kL)),(b,blk 300 (hcs s bg rest n))] w0 w) (show splice (wvs st.l) 1 ((wvs st.l).take 7)=wvs (St8.mk st.a st.a st.b st.c st.d st.e st.f st.g).l from rfl)).mp hs
       have hset1:(wvs (St8.mk st.a st.a st.b st.c st.d st.e st.f st.g).l).set (0+4*1) (wv (st.d+(st.h+(rotr st.e 6 ^^^ rotr st.e 11 ^^^ rotr st.e 25)+(st.e &&& st.f ^^^ ~~~ st.e &&& st.g)+kL.getD t 0+W.getD t 0)))=(wvs (St8.mk st.a st.a st.b st.c (st.d+(st.h+(rotr st.e 6 ^^^ rotr st.e 11 ^^^ rotr st.e 25)+(st.e &&& st.f ^^^ ~~~ st.e &&& st.g)+kL.getD t 0+W.getD t 0)) st.e st.f st.g).l):=rfl
       have hset:(wvs (St8.mk st.a st.a st.b st.c (st.d+(st.h+(rotr st.e 6 ^^^ rotr st.e 11 ^^^ rotr st.e 25)+(st.e &&& st.f ^^^ ~~~ st.e &&& st.g)+kL.getD t 0+W.getD t 0)) st.e st.f st.g).l).set (0+0*1) (wv ((st.h+(rotr st.e 6 ^^^ rotr st.e 11 ^^^ rotr st.e 25)+(st.e &&& st.f ^^^ ~~~ st.e &&& st.g)+kL.getD t 0+W.getD t 0)+((rotr st.a 2 ^^^ rotr st.a 13 ^^^ rotr st.a 22)+(st.a &&& st.b ^^^ st.a &&& st.c ^^^ st.b &&& st.c))))=wvs (stRounds S W (t+1)).l:=by
        rw[stRounds_succ,hst,stStep,stP,stQ];rfl
       have hml:(wvs (St8.mk st.a st.a st.b st.c (st.d+(st.h+(rotr st.e 6 ^^^ rotr st.e 11 ^^^ rotr st.e 25)+(st.e &&& st.f ^^^ ~~~ st.e &&& st.g)+kL.getD t 0+W.getD t 0)) st.e st.f st.g).l).length=8:=rfl
       refine sr<|wV (run_ixArrN (i:=4) u291 ty281 rfl rfl (by omega))<|wl ty281 rfl (hs.c0 (v:=wv st.d) rfl)<|wm<|wV (run_add32 rfl rfl)<|wV (run_ixArrN (i:=4) u291 ty281 rfl rfl (by omega))<|ws1 ty281 rfl rfl (rfl) hs (fun w hs=>?_)
       refine wZ ?_
       replace hs:=(congrArg (fun cs=>Step [b] [(b13,blk 291 cs),(b5,blk 302 (wvs W)),(b4,blk 302 (wvs kL)),(b,blk 300 (hcs s bg rest n))] w0 w) hset1).mp hs
       refine cr<|wm<|wm<|wV (run_add32 rfl rfl)<|wV (run_ixArrN (i:=0) u291 ty281 rfl rfl (by omega))<|ws1 ty281 rfl rfl (rfl) hs (fun w hs=>?_)
       refine wZ ?_
       replace hs:=(congrArg (fun cs=>Step [b] [(b13,blk 291 cs),(b5,blk 302 (wvs W)),(b4,blk 302 (wvs kL)),(b,blk 300 (hcs s bg rest n))] w0 w) hset).mp hs
       refine cr<|wP ((t+1:Nat):Int)<|wm<|wZ<|(show _∧_ from⟨rfl,_,?_,t+1,by omega,rfl,hs,rfl,rfl,rfl,rfl,rfl,rfl,trivial⟩)
       omega
      ·obtain rfl:t=64:=by omega
       have ob:∃r,stRounds S W 64=r:=⟨_,rfl⟩
       obtain⟨r,hR⟩:=ob
       rw[hR] at hs⊢
       replace hs:Step [b] [(b,blk 300 (hcs s bg rest n)),(b13,blk 291 (wvs r.l))] w0 w:=Step.dropR (L1:=[_,_]) (hs.front [_,_,_])
       refine CW.exit<|cq<|sr<|wm<|wE rfl (run_call en194 rfl rfl) (state_spec _ hs.hd) ?_
       rintro e w ⟨rfl,hq⟩
       refine⟨_,rfl,?_⟩
       replace hs:=hs.callE hq
       refine wm<|wZ ?_
       rw[hS]
       refine cB<|CW.loop (fun m f w'=>∃i,i≤8∧m=8 - i∧Step [b] [(b,blk 300 (wvs (mixW s S r i)++Value.bool bg::(u8s rest++[.int .i64 n]))),(b13,blk 291 (wvs r.l))] w0 w'∧Holds f [(0,pt b),(13,pt b13),(176,.agg (wvs S.l).toArray),(177,.int .i64 (i:Nat))]) (m:=8) ?_ ?_
       ·exact⟨0,by omega,rfl,hs,rfl,rfl,rfl,rfl,trivial⟩
       ·clear hs
        rintro m f w ⟨i,hi,rfl,hs,hf⟩
        have ob:=hf.chain
        obtain⟨g,rfl⟩:=ob
        refine sr<|wV (run_lss rfl rfl)<|wZ<|cq<|CW.condP rfl (fun h=>?_) (fun h=>?_)
        ·have hlt:i<8:=by omega
         have hr1:(wvs r.l)[0+i*1]?=some (wv (r.l.getD i 0)):=by rw[Nat.mul_one,Nat.zero_add];exact St8_get hlt
         have hS1:(wvs S.l)[i]?=some (wv (S.l.getD i 0)):=St8_get hlt
         have hml:=mixW_len (s:=s) (S:=S) (r:=r) hi
         refine ck<|cq<|cB<|sr<|wm<|wV (run_ixAgg u291 ty281 rfl rfl (by omega) (hS1))<|wA<|wA<|wZ<|CW.quietT (l1:=[_,_,_,_,_,_,_,_,_,_]) (l2:=[_]) 10 rfl mixedP rfl (by kernel_rfl) hs ?_
         refine qm<|qm<|qm<|qm<|qV (fun w hs=>run_ixArrN u291 ty281 rfl rfl (by omega))<|qL ty281 rfl (fun w hs=>hs.c1 hr1)<|qV (fun w hs=>run_add32 rfl rfl)<|qn rfl<|qF 0 u300 rfl ty291 rfl<|qV (fun w hs=>run_ixArrN u291 ty281 rfl rfl (by omega))<|QL.nil (fun w hs=>?_)
         refine ws1 ty281 rfl rfl (rfl) hs (fun w hs=>?_)
         refine wZ ?_
         replace hs:=(congrArg (fun cs=>Step [b] [(b,blk 300 cs),(b13,blk 291 (wvs r.l))] w0 w) (mixW_set hlt)).mp hs
         refine cr<|wP ((i+1:Nat):Int)<|wm<|wZ<|(show _∧_ from⟨rfl,_,?_,i+1,by omega,rfl,hs,rfl,rfl,rfl,rfl,trivial⟩)
         omega
        ·obtain rfl:i=8:=by omega
         refine CW.exit<|cr<|wm<|wn rfl<|wF 8 u300 rfl ty4 rfl<|ws1 ty4 rfl rfl (rfl) hs (fun w hs=>?_)
         refine wZ<|fin_end0 rfl ?_
         exact⟨rfl,hs.dropR (L1:=[_])⟩
end Go.Gx
namespace Go.Gx
open Go.Proofs List
attribute [local irreducible] stBlock stBlocks hcs restW
def HT (b:Nat) (s:St8) (bg:Bool) (rest:(List UInt8)) (n:Nat):Nat×Obj:=(b,blk 300 (hcs s bg rest n))
def Hashes (S:List Nat) (w0 w:World) (b:Nat) (d:(List UInt8)):Prop:=∃s bg rest,HInv d s bg rest∧Step S [(b,blk 300 (hcs s bg rest d.length))] w0 w
theorem write_spec{b:Nat}{s:St8}{bg:Bool}{rest d x:U8}{v:Value} (w0:World) (hb:w0.heap[b]?=some (blk 300 (hcs s bg rest d.length))) (hI:HInv d s bg rest)
  (hv:Sl w0 1 v x.length (u8s x)) (hcap:Room v) (ho:x=[]∨Outside v [b]) (hsz:d.length+x.length<4611686018427387904) :
  CP 175 #[pt b,v] w0 (fun e w'=>e=.returned (.tuple #[])∧Hashes [b] w0 w' b (d++x)):=by
 have hs:Step [b] [(b,blk 300 (hcs s bg rest d.length))] w0 w0:=Step.start (L:=[(b,blk 300 (hcs s bg rest d.length))]) (by simp) (by simpa using hb)
 refine calls (n:=42) Tryz.func175 rfl rfl rfl ?_
 refine cB<|CW.loop (fun m f w'=>∃i u s bg rest,i≤x.length∧m=x.length - i∧HInv (d++x.take i) s bg rest∧Step [b] [(b,blk 300 (hcs s bg rest (d.length+i)))] w0 w'∧Sl w0 1 u (x.length - i) (u8s (x.drop i))∧Room u∧(i<x.length→Outside u [b])∧Holds f [(0,pt b),(1,u)]) (m:=x.length) ?_ ?_
 ·exact⟨0,v,s,bg,rest,by omega,rfl,by simpa using hI,hs,by simpa using hv,hcap,fun h=>ho.resolve_left (fun e=>by rw[e] at h;exact absurd h (by simp)),rfl,rfl,trivial⟩
 ·clear hs hb hI hv hcap ho
  rintro m f w ⟨i,u,s,bg,rest,hi,rfl,hI,hs,hu,hcap,ho,hf⟩
  have ob:=hf.chain
  obtain⟨g,rfl⟩:=ob
  have hfin:i=x.length→Hashes [b] w0 w b (d++x):=fun e=>by
   subst e
   rw[take_length] at hI
   exact⟨s,bg,rest,hI,by rw[length_append];exact hs⟩
  obtain⟨hul,⟨_,c,rfl,hnil⟩ | ⟨bx,off,c,rfl,hat0⟩⟩:=hu
  ·refine cq<|sr<|wm<|wL u76 rfl<|wV (run_gtr rfl rfl)<|wZ<|CW.condP rfl (fun h=>?_) (fun h=>?_)
   ·omega
   ·refine CW.exit<|fin_end0 rfl ?_
    exact⟨rfl,hfin (by omega)⟩
  ·refine cq<|sr<|wm<|wL u76 rfl<|wV (run_gtr rfl rfl)<|wZ<|CW.condP rfl (fun h=>?_) (fun h=>?_)
   ·have hbx:bx∉[b]:=ho (by omega)
    have hat:=hat0.step hs hbx
    have hcl:x.length - i≤c:=hcap
    have ob:∃n,d.length+i=n:=⟨_,rfl⟩
    obtain⟨n,hn⟩:=ob
    rw[hn] at hs
    have hdl:(d++x.take i).length=n:=by rw[length_append,length_take];omega
    have ob:∃K,min (x.length - i) (64 - n % 64)=K:=⟨_,rfl⟩
    obtain⟨K,hK⟩:=ob
    have hml:n % 64<64:=Nat.mod_lt _ (by decide)
    have ob:∃y,(x.drop i).take K=y:=⟨_,rfl⟩
    obtain⟨y,hy⟩:=ob
    have hyl:y.length=K:=by rw[←hy,length_take,length_drop];omega
    have hyx:d++x.take i++y=d++x.take (i+K):=by rw[←hy,take_add,append_assoc]
    have hln:=hcs_len (s:=s) (bg:=bg) (n:=n) hI.len
    have hRl:(restW rest (n % 64) y).length=64:=restW_len hI.len (by omega)
    have hln2:=hcs_len (s:=s) (bg:=bg) (n:=n) hRl
    have hcutA:cutSl 1 b (0+9) (n % 64) 64 64=.slice (some ⟨b,9+n % 64,none⟩) (64 - n % 64) (64 - n % 64):=by
     rw[cutSl,if_neg (by omega),Nat.mul_one]
    have hsp:splice (hcs s bg rest n) (9+n % 64) ((u8s (x.drop i)).take (min (x.length - i) (64 - n % 64)*1))=hcs s bg (restW rest (n % 64) y) n:=by
     have e:(u8s (x.drop i)).take (min (x.length - i) (64 - n % 64)*1)=u8s y:=by rw[Nat.mul_one,hK,←hy,u8s,u8s,map_take]
     rw[e,hcs_copy hI.len (by omega)]
    have hset:(hcs s bg (restW rest (n % 64) y) n).set (0+73) (.int .i64 ((n+K:Nat):Int))=hcs s bg (restW rest (n % 64) y) (n+K):=hcs_setN hRl
    have hu':Sl w0 1 (cutSl 1 bx off K (x.length - i) c) (x.length - (i+K)) (u8s (x.drop (i+K))):=by
     have h1:=Sl.cut (lo:=K) (hi:=x.length - i) (m:=c) hat0 hul (by omega) (Nat.le_refl _) hcl
     rw[show x.length - i - K=x.length - (i+K) by omega,Nat.mul_one,take_of_length_le (by rw[u8s,length_map,length_drop];omega),u8s,←map_drop,drop_drop] at h1
     exact h1
    have hr':Room (cutSl 1 bx off K (x.length - i) c):=by show x.length - i - K≤c - K;omega
    have ho':Outside (cutSl 1 bx off K (x.length - i) c) [b]:=hbx
    refine ck<|cB<|sr<|wm<|wn rfl<|wF 73 u300 rfl ty3 rfl<|wl ty3 rfl (hs.c0 (hcs_n hI.len))<|wV (run_remN (m:=64) rfl rfl (by decide))<|wA<|wZ<|sr<|wm<|wn rfl<|wF 9 u300 rfl ty298 rfl<|wm<|wV (run_sliceArrE (lo:=n % 64) (hi:=64) (m:=64) u298 ty5 rfl rfl rfl (by omega) (by omega) hcutA)<|wm ?_
    refine WL.copy u76 ty5 rfl rfl (hs) (⟨hul,.inr ⟨bx,off,c,rfl,hat⟩⟩) (Cells1.u8s _) (by omega) (fun k hk=>by cases hk;rfl) (fun w hs=>⟨fun k hk=>?_,fun h=>by cases h⟩)
    cases hk
    refine wA<|wZ ?_
    replace hs:=(congrArg (fun cs=>Step [b] [(b,blk 300 cs)] w0 w) hsp).mp hs
    refine sr<|wm<|wn rfl<|wF 73 u300 rfl ty3 rfl<|wl ty3 rfl (hs.c0 (hcs_n hRl))<|wm<|wP ((n+K:Nat):Int)<|wn rfl<|wF 73 u300 rfl ty3 rfl<|ws1 ty3 rfl rfl (rfl) hs (fun w hs=>?_)
    refine wZ ?_
    replace hs:=(congrArg (fun cs=>Step [b] [(b,blk 300 cs)] w0 w) hset).mp hs
    refine sr<|wm<|wm<|wV (run_sliceSlE (lo:=K) (hi:=x.length - i) (m:=c) u76 ty5 rfl (congrArg (fun k:Nat=>Value.int .i64 k) hK) rfl rfl (by simp) (by omega) (by omega) (by omega) rfl)<|wA<|wZ<|sr<|wm<|wm<|wP ((n % 64+K:Nat):Int)<|wV (run_eql rfl rfl)<|wZ ?_
    refine CW.condP rfl (fun h2=>?_) (fun h2=>?_)
    ·have hfull:=hI.full (y:=y) (by rw[hdl];omega)
     rw[hdl,hyx] at hfull
     refine cr<|wm<|wm<|wn rfl<|wF 9 u300 rfl ty298 rfl<|wV (run_sliceArrE (lo:=0) (hi:=64) (m:=64) (v:=.slice (some ⟨b,9,none⟩) 64 64) u298 ty5 rfl rfl rfl (by decide) (by decide) rfl)<|wE rfl (run_call en193 rfl rfl) (block_words hRl _ hs.hd) ?_
     rintro e w ⟨rfl,hq⟩
     refine⟨_,rfl,?_⟩
     replace hs:=Step.call (L1:=[_]) (L:=[]) hs hq
     refine wZ<|(show _∧_ from⟨rfl,_,?_,i+K,_,_,_,_,by omega,rfl,hfull,by rw[←Nat.add_assoc,hn];exact hs,hu',hr',fun _=>ho',rfl,rfl,trivial⟩)
     omega
    ·have hpart:=hI.part (y:=y) (by rw[hdl];omega)
     rw[hdl,hyx] at hpart
     refine ck<|(show _∧_ from⟨rfl,_,?_,i+K,_,_,_,_,by omega,rfl,hpart,by rw[←Nat.add_assoc,hn];exact hs,hu',hr',fun _=>ho',rfl,rfl,trivial⟩)
     omega
   ·refine CW.exit<|fin_end0 rfl ?_
    exact⟨rfl,hfin (by omega)⟩
end Go.Gx
