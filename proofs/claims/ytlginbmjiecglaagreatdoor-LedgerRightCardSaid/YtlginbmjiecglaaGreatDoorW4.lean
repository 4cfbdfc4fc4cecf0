/- Texts of one claim, put together. -/
import Derived.Test.YtlginbmjiecglaaGreatDoorW3
import Derived.RangeFuncIn
import Derived.Orders
namespace Go.Abs
section
open Go
section
variable {P:Program} {p:Phi} {m:Mem} {w:World}
structure Laid (P:Program) (p:Phi) (v:Blk) (mk:Nat->AV) (w w':World) (cv:Value) (o:Obj) (n:Nat):Prop where
 heap:w'.heap=w.heap.push o
 os:w'.os=w.os
 output:w'.output=w.output
 tape:w'.tape=w.tape
 blk:BR P p ⟨w.heap.size,0,n⟩ v o
 value:∀(p2:Phi) b,p2 b=some ⟨w.heap.size,0,n⟩->VR p2 (mk b) cv
theorem q3e {cs:List AV} {ro:Bool} {mk:Nat->AV} {w w':World} {cv:Value} {arr:Array Value} {el:TypeId} {fr:Nat×Nat} (h1:w'.heap=w.heap.push (.cells arr el fr)) (h2:w'.os=w.os) (h3:w'.output=w.output) (h4:w'.tape=w.tape)
  (h5:ro=false->∀i,¬(fr.1<=i/\i<fr.2)) (h6:∀(i:Nat) a,cs[i]? = some a->∃v,arr[i]? = some v/\VR p a v) (h7:∀(p2:Phi) b,p2 b=some ⟨w.heap.size,0,arr.size⟩->VR p2 (mk b) cv) :
  Laid P p (.cells cs ro) mk w w' cv (.cells arr el fr) arr.size:=
 ⟨h1,h2,h3,h4,⟨arr,el,fr,rfl,rfl,h5,fun i a hi=>let ⟨v,x,y⟩:=h6 i a hi;⟨v,by simpa using x,y⟩⟩,h7⟩
theorem Laid.sim {v:Blk} {mk:Nat->AV} {w':World} {cv:Value} {o:Obj} {n:Nat} (h:Laid P p v mk w w' cv o n) (hm:MR P p m w) (hf:p m.next=none) :
  Sim P p m w (fun b=>if b=m.next then some ⟨w.heap.size,0,n⟩ else p b) (m.lay v) w':=
 Sim.lay hm hf (xnr _) (by rw[h.heap];simp) (fun i hi=>by rw[h.heap,Array.getElem?_push_lt hi,<-Array.getElem?_eq_getElem]) (by rw[h.heap];simp) h.os h.output h.tape fun _ hq=>h.blk.mono hq
theorem q4S {cs:List AV} {vs:List Value} (h:VRs p cs vs):∀(i:Nat) a,cs[i]? = some a->∃v,(⟨vs⟩:Array Value)[i]? = some v/\VR p a v:=by
 intro i a hi;obtain⟨v,h1,h2⟩:=h.get hi;exact⟨v,by simpa using h1,h2⟩
theorem wrap_i64 {n:Int} (h0:-9223372036854775808<=n) (h1:n<9223372036854775808):IntKind.i64.wrap n=n:=by
 have e1:((2:Int) ^ IntKind.i64.bits)=18446744073709551616:=by decide
 have e2:((2:Int) ^ (IntKind.i64.bits-1))=9223372036854775808:=by decide
 have e3:IntKind.i64.signed=true:=rfl;simp only[IntKind.wrap,e1,e2,e3,Bool.true_and,decide_eq_true_eq];split<;>omega
theorem q7I {o:Oper} {t:List AV} {a:Act} (ht:VRs p t a.tmps.toList) (hg:∀g,g<P.globals.size->∃n,p g=some ⟨g,0,n⟩) (hc:cls P o.op=.a) {cs:Blk} {mk:Nat->AV} (h:q25 P o.op t=some (cs,mk)) (w:World) :
  ∃cv w' ob n,(execOp a.eval o).run P w=.ok (.value cv) w'/\Laid P p cs mk w w' cv ob n:=by
 have E:∀{x:Operand} {v:AV},ev P t x=some v->VR p v (a.eval x):=fun h=>q2s ht hg h
 have ho:∃op,o.op=op:=⟨_,rfl⟩;obtain⟨op,ho⟩:=ho;rw[ho]at h hc;unfold q25 at h;split at h
 ·
  rename_i e;obtain⟨zs,hz,e1⟩:=xoe.1 h;cases e1;obtain⟨z,zs',h1,h2,h3,h4,_⟩:=q1O (p:=p) (w:=w) hz;refine⟨.pointer (some ⟨w.heap.size,0,none⟩),w.alloc (.cells ⟨zs'⟩ e),.cells ⟨zs'⟩ e (0,0),_,?_,q3e rfl rfl rfl rfl (by simp) (q4S h3) fun p2 b hb=>by simp only[VR];exact⟨_,hb,by simp⟩⟩
  simp only[execOp,ho,Instr.alloc,Sem.run_bind,h1,Result.andThen_ok,newVar,newRow,run_newObj,h2,Sem.run_pure];rfl
 ·
  rename_i e xo;obtain⟨zs,hz,e1⟩:=xoe.1 h;cases e1;obtain⟨x,hx,hc1⟩:=be hz;obtain⟨zs',h2,h3,h4⟩:=(E hx).cells hc1;refine⟨.pointer (some ⟨w.heap.size,0,none⟩),w.alloc (.cells ⟨zs'⟩ e),.cells ⟨zs'⟩ e (0,0),_,?_,q3e rfl rfl rfl rfl (by simp) (q4S h3) fun p2 b hb=>by simp only[VR];exact⟨_,hb,by simp⟩⟩
  simp only[execOp,ho,Instr.box,Sem.run_bind,Result.andThen_ok,newVar,newRow,run_newObj,h2,Sem.run_pure];rfl
 ·
  rename_i s;split at h
  ·rename_i kt et hd;cases h;refine⟨.map (some w.heap.size),w.alloc (.map #[] 0),.map #[] 0,0,?_,rfl,rfl,rfl,rfl,⟨#[],0,rfl,⟨[],.refl _,by simp[ER]⟩,by simp,by simp⟩,fun p2 b hb=>by simp only[VR];exact⟨_,hb,rfl⟩⟩
   simp only[execOp,ho,Option.map_none,Instr.makeMap,Sem.run_bind,Sem.run_pure,Result.andThen_ok,run_newObj];rfl
  ·simp at h
 ·
  rename_i s len parts;split at h
  ·rename_i e he;split at h
   ·rename_i n zs hn hz;split at h
    ·rename_i hle;obtain⟨ps,hps,h⟩:=be h;obtain⟨r,hr,e1⟩:=xoe.1 h;cases e1;obtain⟨z,zs',h1,h2,h3,h4,_⟩:=q1O (p:=p) (w:=w) hz;have hzl:=h3.length;obtain⟨r',f1,f2⟩:=q4J (q5H ht hg hps) (h3.flat len) hr;refine⟨.slice (some ⟨w.heap.size,0,none⟩) len len,w.alloc (.cells ⟨r'⟩ e),.cells ⟨r'⟩ e (0,0),_,?_,q3e rfl rfl rfl rfl (by simp) (q4S f2) fun p2 b hb=>?_⟩
     ·have e2:(parts.map fun x=>(x.1,a.eval x.2)).toList=parts.toList.map fun (i,x)=>(i,a.eval x):=by simp
      simp only[execOp,ho,Instr.buildSlice,Sem.run_bind,q0g he,q08 hn,Result.andThen_ok];rw[Sem.run_ite,if_neg (by omega)];simp only[Sem.run_pure];by_cases h0:len*n=0
      ·have hnil:(List.replicate len zs').flatten=[]:=List.length_eq_zero_iff.1 (by simp[hzl,hle.2,h0]);have hm0:∀f:Nat->Value,(Array.range (len*n)).map f=⟨(List.replicate len zs').flatten⟩:=by intro f;rw[hnil,h0];simp
       rw[if_pos h0];simp only[Sem.run_bind,Sem.run_pure,Result.andThen_ok,hm0,e2,f1,newRow,run_newObj];rfl
      ·have hz0:=q6D zs' len;rw[hzl,hle.2]at hz0;have hz1:(Array.range (len*n)).map (fun x=>(⟨zs'⟩:Array Value)[x % (⟨zs'⟩:Array Value).size]!)=⟨(List.replicate len zs').flatten⟩:=by
        rw[<-hz0];simp[hzl,hle.2]
       rw[if_neg h0];simp only[Sem.run_bind,h1,h2,Sem.run_pure,Result.andThen_ok,hz1,e2,f1,newRow,run_newObj];rfl
     ·simp only[VR,SR];exact⟨_,0,len,hb,rfl,xnr _,xnr _,fun _=>rfl,by simp,fun _=>by simp⟩
    ·simp at h
   ·simp at h
  ·simp at h
 ·
  rename_i s lo co;obtain⟨l,hl,h⟩:=be h;obtain⟨c,hcc,h⟩:=be h;split at h
  ·rename_i e l c he _;split at h
   ·rename_i n zs wb hn hz hb;split at h
    ·rename_i hle;cases h;obtain⟨z,zs',h1,h2,h3,h4,_⟩:=q1O (p:=p) (w:=w) hz;have hzl:=h3.length;have hl':=E hl;have hc':=E hcc;simp only[VR]at hl' hc';obtain⟨g1,g2,g3,g4,g5⟩:=hle;unfold q0A at g4;have hwl:IntKind.i64.wrap l=l:=wrap_i64 (by omega) (by omega);have hwc:IntKind.i64.wrap c=c:=wrap_i64 (by omega) (by omega);obtain⟨i,hi⟩:∃i,P.info? e=some i/\i.bytes=wb:=by
      unfold q4y at hb;obtain⟨i,h5,h6⟩:=xoe.1 hb;exact⟨i,h5,h6⟩
     obtain⟨hi,hib⟩:=hi;refine⟨.slice (some ⟨w.heap.size,0,none⟩) l.toNat c.toNat,w.alloc (.cells ⟨(List.replicate c.toNat zs').flatten⟩ e),.cells ⟨(List.replicate c.toNat zs').flatten⟩ e (0,0),_,?_,q3e rfl rfl rfl rfl (by simp) (q4S (h3.flat _)) fun p2 b hb=>?_⟩
     ·have hbc:((wb:Int)*c)=((c.toNat*wb:Nat):Int):=by
       rw[Int.natCast_mul,Int.toNat_of_nonneg (by omega),Int.mul_comm]
      have hlarge:¬(c<0\/(281474976710656:Int)<(wb:Int)*c):=by rw[hbc];omega
      simp only[execOp,ho,hl',hc',Instr.makeSlice,Sem.run_bind,q0g he,Result.andThen_ok,asInt,asIntOf,Sem.run_pure,q6y hi,hwl,hwc,hib];rw[Sem.run_ite,if_neg (by simp;omega)];simp only[Result.andThen_ok,run_askRoom,Sem.run_bind,q08 hn];by_cases h0:c.toNat*n=0
      ·have hnil:(List.replicate c.toNat zs').flatten=[]:=List.length_eq_zero_iff.1 (by simp only[List.length_flatten,List.map_replicate,List.sum_replicate_nat,hzl,g5,h0]);have hm0:∀f:Nat->Value,(Array.range (c.toNat*n)).map f=⟨(List.replicate c.toNat zs').flatten⟩:=by intro f;rw[hnil,h0];simp
       rw[if_pos h0];simp only[Sem.run_bind,Sem.run_pure,Result.andThen_ok,hm0,newRow,run_newObj];rfl
      ·have hz0:=q6D zs' c.toNat;rw[hzl,g5]at hz0;have hz1:(Array.range (c.toNat*n)).map (fun x=>(⟨zs'⟩:Array Value)[x % (⟨zs'⟩:Array Value).size]!)=⟨(List.replicate c.toNat zs').flatten⟩:=by
        rw[<-hz0];simp[hzl,g5]
       rw[if_neg h0];simp only[Sem.run_bind,h1,h2,Sem.run_pure,Result.andThen_ok,hz1,newRow,run_newObj];rfl
     ·simp only[VR,SR];exact⟨_,0,c.toNat,hb,rfl,by omega,xnr _,fun _=>rfl,by simp,fun _=>by simp⟩
    ·simp at h
   ·simp at h
  ·simp at h
 ·
  rename_i src dst xo;obtain⟨x,hx,h⟩:=be h;split at h
  ·rename_i e s hsome he;split at h
   ·rename_i heu hsz;cases h;have hx':=E hx;simp only[VR]at hx';obtain⟨d,hd⟩:=Option.isSome_iff_exists.1 hsome
    let cap:=grownCap w s.length 0 e
    have hge:s.length<=cap:=grownCap_ge w s.length 0 e
    let arr:Array Value:=(⟨s⟩:Array UInt8).map (fun b=>Value.int .u8 b.toNat)++Array.replicate (cap-s.length) (.int .u8 0)
    have hsz:arr.size=cap:=by simp[arr];omega
    refine⟨.slice (some ⟨w.heap.size,0,none⟩) s.length cap,{w.drew with heap:=w.heap.push (.cells arr e (cap,cap+1))},.cells arr e (cap,cap+1),_,?_,q3e rfl rfl rfl rfl (by simp) (fun i x hi=>?_) fun p2 b hb=>?_⟩
    ·simp only[execOp,ho,hx',convert,Sem.run_bind,q0g hd,q0g he,Result.andThen_ok];have hconv:(Conv.stringToBytes e ⟨⟨s⟩⟩).run P w=.ok (.slice (some ⟨w.heap.size,0,none⟩) s.length cap) {w.drew with heap:=w.heap.push (.cells arr e (cap,cap+1))}:=by
      simp only[Conv.stringToBytes,Sem.run_bind,run_choose,q5s,Question.forced,xbq,if_false,Result.andThen_ok,newRow,run_newObj,Sem.run_pure,markStringish,run_shape,World.shape?];have hcut:(Question.appendCap s.length 0 e).cut (w.tape w.drawn (.appendCap s.length 0 e))=cap:=rfl;simp only[Array.getElem?_push_size,hcut];have harr:(((⟨s⟩:Array UInt8).map fun b=>Value.int .u8 b.toNat)++Array.replicate (cap-s.length) (.int .u8 0))=arr:=rfl
      simp only[harr,run_freeze,Result.andThen_ok,World.freeze,hsz];simp only[Nat.one_ne_zero,if_false];congr 1;simp only[World.drew,World.mk.injEq,and_true];apply Array.ext
      ·simp
      ·intro i hi1 hi2;simp only[Array.size_push]at hi2;simp only[Array.getElem_modify,Array.getElem_push];by_cases hi:i<w.heap.size
       ·rw[if_neg (by omega)];simp[hi]
       ·rw[if_pos (by omega)];simp[hi]
     cases d<;>simp only[q0g heu,Result.andThen_ok,hconv,Sem.run_pure]
    ·simp only[List.getElem?_map,xoe]at hi;obtain⟨c,hc,rfl⟩:=hi;refine⟨.int .u8 c.toNat,?_,by simp[VR]⟩;have:=(xgi.1 hc).1;simp only[arr];rw[Array.getElem?_append_left (by simpa using this)];simp[hc]
    ·simp only[VR,SR];exact⟨_,0,cap,hb,rfl,xnr _,hge,by simp,fun _=>by simp[hsz],fun _=>by simp⟩
   ·simp at h
  ·simp at h
 ·simp at h
end
end
section
open Go
section
variable {P:Program}
abbrev GP (P:Program):Nat:=P.globals.size
def z6b (P:Program) (tg:Tg) (args:List AV) (m:Mem) (r:AV) (m':Mem):Prop:=
 m.next<=m'.next/\∀(p:Phi) (w:World) (cargs:List Value),MR P p m w->GP P<=m.next->q5x p m.next m'.next->VRs p args cargs->
  match tg with
  | .fn f => (∃ fn, P.funcs[f]? = some fn ∧ fn.body.isSome = true ∧ fn.name ≠ "runtime.NumGoroutine" ∧
    Calls P f ⟨cargs⟩ w fun e w'=>∃cv p',e=.returned cv/\VR p' r cv/\Sim P p m w p' m' w')\/
   (∃cv w' p',(callFunc f ⟨cargs⟩).run P w=.ok (.value cv) w'/\VR p' r cv/\Sim P p m w p' m' w')
  | .yl b=>∀ci,p b=some ci->∃f tmps assign body,(Instr.yield ci.c ⟨cargs⟩).run P w=.ok (.round ci.c f tmps assign body) w/\
    ∀(c:Frame) (cs:List Frame),∃cv p' w',VR p' r cv/\Sim P p m w p' m' w'/\Steps P (lone (Frame.round ci.c f tmps assign body .normal) (c::cs) w) (lone (c.finish cv) cs w')
def q1E (P:Program) (call:q02):Prop:=∀tg args m r m',call tg args m=some (r,m')->z6b P tg args m r m'
def z4E (P:Program) (o:Oper) (t:List AV) (m:Mem) (v:AV) (m':Mem):Prop:=
 m.next<=m'.next/\∀(p:Phi) (a:Act) (w:World),MR P p m w->GP P<=m.next->q5x p m.next m'.next->VRs p t a.tmps.toList->
  ∀(b:Frame) (ops:Array Oper) (i:Nat) (rest:List Nat) (k:List Item) (cs:List Frame),ops[i]? = some o->Region.wanted o (yielded ops a.tmps)=true->
   ∃cv p' w',VR p' v cv/\Sim P p m w p' m' w'/\Steps P (lone (b.atR a (.inRegion ops (i::rest)::k)) cs w) (lone (b.atR (a.put o.dst cv) (.inRegion ops rest::k)) cs w')
theorem q5i {o:Oper} {ρ:Operand->Value} {w w':World} {n:Next} (h:(execOp ρ o).run P w=.ok n w') (hn:∀d,n≠.defer d):∀c,o.op≠.defer c:=by
 intro c hc;simp only[execOp,hc,Sem.run_bind]at h;cases e:(resolve ρ c o.type).run P w with
 |ok d w2=>rw[e]at h;simp only[Result.andThen_ok,Sem.run_pure]at h;injection h with h1 h2;exact hn d h1.symm
 |halt x w2=>rw[e]at h;simp at h
section step
variable {b:Frame} {a:Act} {k:List Item} {cs:List Frame} {w w':World} {ops:Array Oper} {i:Nat} {rest:List Nat} {o:Oper}
theorem q3i {v:Value} (ho:ops[i]? = some o) (hw:Region.wanted o (yielded ops a.tmps)=true) (h:(execOp a.eval o).run P w=.ok (.value v) w') :
  step P (lone (b.atR a (.inRegion ops (i::rest)::k)) cs w)=.next (lone (b.atR (a.put o.dst v) (.inRegion ops rest::k)) cs w'):=by
 have hg:=stepGR_op (P:=P) (b:=b) (k:=k) (cs:=cs) (w:=w) (rest:=rest) ho hw;rw[Oper.semAt_eq _ _ _ (q5i h (by simp))]at hg;have hfin:(b.atR a (.inRegion ops (i::rest)::k)).finish v=b.atR (a.put o.dst v) (.inRegion ops rest::k):=by rw[Frame.finish_atR,ho];rfl
 refine step_lone_go ?_;rw[hg,<-hfin];simp[stepG.apply,h]
theorem z1g (ho:ops[i]? = some o) (hw:Region.wanted o (yielded ops a.tmps)=true) (h:(execOp a.eval o).run P w=.ok .skip w') :
  step P (lone (b.atR a (.inRegion ops (i::rest)::k)) cs w)=.next (lone (b.atR (a.put o.dst undef) (.inRegion ops rest::k)) cs w'):=by
 have hg:=stepGR_op (P:=P) (b:=b) (k:=k) (cs:=cs) (w:=w) (rest:=rest) ho hw;rw[Oper.semAt_eq _ _ _ (q5i h (by simp))]at hg;have hfin:(b.atR a (.inRegion ops (i::rest)::k)).finish undef=b.atR (a.put o.dst undef) (.inRegion ops rest::k):=by rw[Frame.finish_atR,ho];rfl
 refine step_lone_go ?_;rw[hg,<-hfin];simp[stepG.apply,h]
theorem z5L {f:FuncId} {args:Array Value} (ho:ops[i]? = some o) (hw:Region.wanted o (yielded ops a.tmps)=true) (h:(execOp a.eval o).run P w=.ok (.enter f args) w') :
  step P (lone (b.atR a (.inRegion ops (i::rest)::k)) cs w)=.next (lone (Frame.enter P f args .normal) (b.atR a (.inRegion ops (i::rest)::k)::cs) w'):=by
 have hg:=stepGR_op (P:=P) (b:=b) (k:=k) (cs:=cs) (w:=w) (rest:=rest) ho hw;rw[Oper.semAt_eq _ _ _ (q5i h (by simp))]at hg;refine step_lone_go ?_;rw[hg];simp[stepG.apply,h,Frame.atR]
theorem z5M {l:Nat} {f:FuncId} {tmps:Array Value} {assign body:Code} (ho:ops[i]? = some o) (hw:Region.wanted o (yielded ops a.tmps)=true) (h:(execOp a.eval o).run P w=.ok (.round l f tmps assign body) w') :
  step P (lone (b.atR a (.inRegion ops (i::rest)::k)) cs w)=.next (lone (Frame.round l f tmps assign body .normal) (b.atR a (.inRegion ops (i::rest)::k)::cs) w'):=by
 have hg:=stepGR_op (P:=P) (b:=b) (k:=k) (cs:=cs) (w:=w) (rest:=rest) ho hw;rw[Oper.semAt_eq _ _ _ (q5i h (by simp))]at hg;refine step_lone_go ?_;rw[hg];simp[stepG.apply,h,Frame.atR]
theorem q7R (ho:ops[i]? = some o) (v:Value):(b.atR a (.inRegion ops (i::rest)::k)).finish v=b.atR (a.put o.dst v) (.inRegion ops rest::k):=by rw[Frame.finish_atR,ho];rfl
end step
theorem z4E.q2e {o:Oper} {t:List AV} {m:Mem} {v:AV} {m':Mem} (h0:m.next<=m'.next)
  (h:∀(p:Phi) (a:Act) (w:World),MR P p m w->GP P<=m.next->q5x p m.next m'.next->VRs p t a.tmps.toList->
   ∃cv w' p',((execOp a.eval o).run P w=.ok (.value cv) w'\/((execOp a.eval o).run P w=.ok .skip w'/\cv=undef))/\VR p' v cv/\Sim P p m w p' m' w'):z4E P o t m v m':=by
 refine⟨h0,fun p a w hm hG hf ht b ops i rest k cs ho hw=>?_⟩
 obtain⟨cv,w',p',h1,h2,h3⟩:=h p a w hm hG hf ht;rcases h1 with h1|⟨h1,rfl⟩
 ·exact⟨cv,p',w',h2,h3,.one (q3i ho hw h1)⟩
 ·exact⟨undef,p',w',h2,h3,.one (z1g ho hw h1)⟩
theorem z4E.pure {o:Oper} {t:List AV} {m:Mem} {v:AV} (h:q5l P o.op t=some v):z4E P o t m v m:=
 .q2e (xnr _) fun p _a w hm _ _ ht=>
  let ⟨cv,h1,h2⟩:=q73 (w:=w) ht hm.q2O h
  ⟨cv,w,p,.inl h1,h2,Sim.refl hm⟩
theorem z4E.read {o:Oper} {t:List AV} {m:Mem} {v:AV} (hc:cls P o.op=.r) (h:q1Y P o.op t m=some v):z4E P o t m v m:=
 .q2e (xnr _) fun p _a w hm _ _ ht=>
  let ⟨cv,h1,h2⟩:=q76 hm ht hc h
  ⟨cv,w,p,.inl h1,h2,Sim.refl hm⟩
theorem z4E.alloc {o:Oper} {t:List AV} {m:Mem} {cs:Blk} {mk:Nat->AV} (hc:cls P o.op=.a) (h:q25 P o.op t=some (cs,mk)):z4E P o t m (mk m.next) (m.lay cs):=
 .q2e (by simp) fun p a w hm hG hf ht=>by
  obtain⟨cv,w',ob,n,h1,h2⟩:=q7I ht hm.q2O hc h w;exact⟨cv,w',_,.inl h1,h2.value _ _ (by simp),h2.sim hm (hf _ (xnr _) (by simp))⟩
theorem z1D {call:q02} (hcall:q1E P call) {o:Oper} {f:Operand} {xs:List Operand} {ts:Array TypeId} (ho:o.op=.call {callee:=.value f,args:=⟨xs⟩,argTypes:=ts})
  {t:List AV} {m:Mem} {fv:AV} {as:List AV} {r:AV} {m':Mem} (hf:ev P t f=some fv) (ha:evs P t xs=some as) (h:q3P call fv as m=some (r,m')):z4E P o t m r m':=by
 unfold q3P at h;split at h
 ·rename_i g first cap
  obtain⟨h0,hfn⟩:=hcall _ _ _ _ _ h;refine⟨h0,fun p a w hm hG hfree ht b ops i rest k cs hoi hw=>?_⟩
  have hfv:=q2s ht hm.q2O hf;have has:=q6P ht hm.q2O ha;simp only[VR]at hfv;obtain⟨first',cap',hfe,h1,h2⟩:=hfv
  have hrun:(execOp a.eval o).run P w=(callFunc g ⟨first'++xs.map a.eval++cap'⟩).run P w:=by
   simp only[execOp,ho,resolve,hfe,Deferred.ofValue,Sem.run_bind,Sem.run_pure,Result.andThen_ok,invoke];congr 2;simp
  rcases hfn p w _ hm hG hfree ((h1.append has).append h2) with ⟨fn,g1,g2,g3,g4⟩|⟨cv,w',p',g1,g2,g3⟩
  ·have he:(callFunc g ⟨first'++xs.map a.eval++cap'⟩).run P w=.ok (.enter g ⟨first'++xs.map a.eval++cap'⟩) w:=by
    have hb:fn.body.isNone=false:=by cases hbb:fn.body<;>simp[hbb]at g2⊢
    have hn2 : (fn.name == "runtime.NumGoroutine") = false := by simpa using g3
    simp only[callFunc,Sem.run_bind,run_program,Result.andThen_ok,g1,hn2,hb,xbq,if_false,Sem.run_pure]
   obtain⟨e,w',fr,⟨cv,p',rfl,k1,k2⟩,k3,k4,k5⟩:=g4 (b.atR a (.inRegion ops (i::rest)::k)::cs);refine⟨cv,p',w',k1,k2,.head (z5L hoi hw (hrun.trans he)) (Steps.trans k3 (.one ?_))⟩;rw[<-q7R hoi];exact step_leave_returned k5
  ·exact⟨cv,p',w',g2,g3,.one (q3i hoi hw (hrun.trans g1))⟩
 ·rename_i l;obtain⟨h0,hfn⟩:=hcall _ _ _ _ _ h;refine⟨h0,fun p a w hm hG hfree ht b ops i rest k cs hoi hw=>?_⟩
  have hfv:=q2s ht hm.q2O hf;have has:=q6P ht hm.q2O ha;simp only[VR]at hfv;obtain⟨ci,hci,hfe⟩:=hfv;obtain⟨g,tmps,assign,body,h1,h2⟩:=hfn p w _ hm hG hfree has ci hci;have hrun:(execOp a.eval o).run P w=.ok (.round ci.c g tmps assign body) w:=by
   simp only[execOp,ho,resolve,hfe,Deferred.ofValue,Sem.run_bind,Sem.run_pure,Result.andThen_ok,invoke];rw[<-h1];congr 2;simp
  obtain⟨cv,p',w',k1,k2,k3⟩:=h2 (b.atR a (.inRegion ops (i::rest)::k)) cs;refine⟨cv,p',w',k1,k2,.head (z5M hoi hw hrun) ?_⟩;rw[<-q7R hoi];exact k3
 ·simp at h
theorem q7M {call:q02} (hcall:q1E P call) {o:Oper} {t:List AV} {m:Mem} {K:AV->Mem->R} {r:AV×Mem} (h:z2C call P o.op t m K=some r) :
  ∃v m',K v m'=some r/\z4E P o t m v m':=by
 have ho:∃op,o.op=op:=⟨_,rfl⟩;obtain⟨op,ho⟩:=ho;rw[ho]at h;unfold z2C at h;split at h
 ·
  rename_i s ao vo;obtain⟨x,h1,h⟩:=be h;obtain⟨y,h2,h⟩:=be h;obtain⟨n,h3,h⟩:=be h;obtain⟨m',h4,h⟩:=be h;have hnext:m'.next=m.next:=by
   unfold stV at h4;split at h4
   ·split at h4
    ·split at h4
     ·obtain⟨_,_,_,rfl⟩:=q1R h4;rfl
     ·simp at h4
    ·simp at h4
   ·simp at h4
  refine⟨.undef,m',h,.q2e (by omega) fun p a w hm hG hf ht=>?_⟩
  obtain⟨w',h5,h6⟩:=j0P (P:=P) hm (q2s ht hm.q2O h1) (q2s ht hm.q2O h2) h3 h4;exact⟨undef,w',p,.inr ⟨by simp[execOp,ho,h5],rfl⟩,by simp[VR],h6⟩
 ·
  rename_i so xo st xt;obtain⟨s,h2,h⟩:=be h;obtain⟨x,h3,h⟩:=be h;obtain⟨⟨v,m'⟩,h4,h⟩:=be h;refine⟨v,m',h,.q2e (q8s h4) fun p a w hm hG hf ht=>?_⟩
  obtain⟨cv,w',p',h5,h6,h7⟩:=q7x (P:=P) (ty:=o.type) hm hG (q2s ht hm.q2O h2) (q2s ht hm.q2O h3) hf h4;refine⟨cv,w',p',.inl ?_,h6,h7⟩;simp only[execOp,ho];rw[q1d];simp only[builtin,List.map_cons,List.map_nil,Sem.run_bind];rw[show (⟨[a.eval so,a.eval xo]⟩:Array Value)=#[a.eval so,a.eval xo] from rfl,show (⟨[st,xt]⟩:Array TypeId)=#[st,xt] from rfl,h5];rfl
 ·
  rename_i so xo st ts;obtain⟨n,h1,h⟩:=be h;obtain⟨d,h2,h⟩:=be h;obtain⟨x,h3,h⟩:=be h;obtain⟨⟨v,m'⟩,h4,h⟩:=be h;have hnext:m'.next=m.next:=by
   unfold q1v at h4;split at h4
   ·split at h4
    ·cases h4;rfl
    ·split at h4
     ·split at h4
      ·split at h4
       ·obtain⟨m1,h5,e⟩:=xoe.1 h4;cases e;obtain⟨_,_,_,rfl⟩:=q1R h5;rfl
       ·simp at h4
      ·simp at h4
     ·simp at h4
   ·simp at h4
  refine⟨v,m',h,.q2e (by omega) fun p a w hm hG hf ht=>?_⟩
  obtain⟨cv,w',h5,h6,h7⟩:=z1K (P:=P) (ty:=o.type) (_xt:=st) (ts:=ts) hm h1 (q2s ht hm.q2O h2) (q2s ht hm.q2O h3) h4;refine⟨cv,w',p,.inl ?_,h6,h7⟩;simp only[execOp,ho];rw[q1d];simp only[builtin,List.map_cons,List.map_nil,Sem.run_bind];rw[show (⟨[a.eval so,a.eval xo]⟩:Array Value)=#[a.eval so,a.eval xo] from rfl,h5];rfl
 ·
  rename_i s xo ko vo;obtain⟨x,h1,h⟩:=be h;obtain⟨k,h2,h⟩:=be h;obtain⟨v,h3,h⟩:=be h;obtain⟨m',h4,h⟩:=be h;refine⟨.undef,m',h,.q2e (Nat.le_of_eq (q7d h4).symm) fun p a w hm hG hf ht=>?_⟩
  obtain⟨w',h5,h6⟩:=q55 hm (q2s ht hm.q2O h1) (q2s ht hm.q2O h2) (q2s ht hm.q2O h3) h4;exact⟨undef,w',p,.inr ⟨by simp[execOp,ho,h5],rfl⟩,by simp[VR],h6⟩
 ·rename_i s xo ko vo;obtain⟨x,h1,h⟩:=be h;obtain⟨k,h2,h⟩:=be h;obtain⟨v,h3,h⟩:=be h;obtain⟨m',h4,h⟩:=be h;refine⟨.undef,m',h,.q2e (Nat.le_of_eq (q7d h4).symm) fun p a w hm hG hf ht=>?_⟩
  obtain⟨w',h5,h6⟩:=q55 hm (q2s ht hm.q2O h1) (q2s ht hm.q2O h2) (q2s ht hm.q2O h3) h4;exact⟨undef,w',p,.inr ⟨by simp[execOp,ho,h5],rfl⟩,by simp[VR],h6⟩
 ·
  rename_i xo ko st ts;obtain⟨x,h1,h⟩:=be h;obtain⟨k,h2,h⟩:=be h;obtain⟨m',h4,h⟩:=be h;refine⟨.undef,m',h,.q2e (Nat.le_of_eq (z14 h4).symm) fun p a w hm hG hf ht=>?_⟩
  obtain⟨w',h5,h6⟩:=z0P (ty:=o.type) (ts:=ts) hm (q2s ht hm.q2O h1) (q2s ht hm.q2O h2) h4;refine⟨.tuple #[],w',p,.inl ?_,by simp[VR],h6⟩;simp only[execOp,ho];rw[q1d];simp only[builtin,List.map_cons,List.map_nil,Sem.run_bind];rw[show (⟨[a.eval xo,a.eval ko]⟩:Array Value)=#[a.eval xo,a.eval ko] from rfl,h5];rfl
 ·
  rename_i xo st ts;obtain⟨x,h1,h⟩:=be h;obtain⟨m',h4,h⟩:=be h;refine⟨.undef,m',h,.q2e (Nat.le_of_eq (z1E h4).symm) fun p a w hm hG hf ht=>?_⟩
  obtain⟨w',h5,h6⟩:=q9W (ty:=o.type) (ts:=ts) hm (q2s ht hm.q2O h1) h4;refine⟨.tuple #[],w',p,.inl ?_,by simp[VR],h6⟩;simp only[execOp,ho];rw[q1d];simp only[builtin,List.map_cons,List.map_nil,Sem.run_bind];rw[show (⟨[a.eval xo]⟩:Array Value)=#[a.eval xo] from rfl,h5];rfl
 ·
  rename_i f xs ts;obtain⟨fv,h1,h⟩:=be h;obtain⟨as,h2,h⟩:=be h;obtain⟨⟨v,m'⟩,h3,h⟩:=be h;exact⟨v,m',h,z1D hcall ho h1 h2 h3⟩
 ·simp at h
theorem z94 {call:q02} (hcall:q1E P call) {o:Oper} {t:List AV} {m:Mem} {K:AV->Mem->R} {r:AV×Mem} (h:opK call P o.op t m K=some r) :
  ∃v m',K v m'=some r/\z4E P o t m v m':=by
 unfold opK at h;split at h
 ·obtain⟨v,h1,h⟩:=be h;exact⟨v,m,h,.pure h1⟩
 ·rename_i hc;obtain⟨v,h1,h⟩:=be h;exact⟨v,m,h,.read hc h1⟩
 ·rename_i hc;obtain⟨⟨cs,mk⟩,h1,h⟩:=be h;exact⟨mk m.next,m.lay cs,h,.alloc hc h1⟩
 ·exact q7M hcall h
theorem z0C {all:List Oper} {o:Oper} {t:List AV} {sk:List Tmp} {y n:List AV->R} {r:AV×Mem} (h:q3L sk all o t y n=some r) :
  (y t=some r/\∀(p:Phi) (tmps:Array Value),VRs p t tmps.toList->Region.wanted o (yielded ⟨all⟩ tmps)=true)\/
  (n t=some r/\∀(p:Phi) (tmps:Array Value),VRs p t tmps.toList->Region.wanted o (yielded ⟨all⟩ tmps)=false):=by
 replace h:=q63 h
 unfold q87 at h;split at h
 ·rename_i hg;exact .inl ⟨h,fun p tmps _=>by simp[Region.wanted,hg]⟩
 ·rename_i j want hg;split at h
  ·rename_i d hd;split at h
   ·rename_i b hb;have hy:∀(p:Phi) (tmps:Array Value),VRs p t tmps.toList->yielded ⟨all⟩ tmps j=some b:=by
     intro p tmps ht;have:t[d]? = some (.bool b):=by
      cases e:t[d]? with
      |none=>rw[List.getD_eq_getElem?_getD,e]at hb;simp at hb
      |some x=>rw[List.getD_eq_getElem?_getD,e]at hb;simp at hb;rw[hb]
     obtain⟨v,h1,h2⟩:=ht.get this;simp only[VR]at h2;subst h2;unfold yielded;have h1':tmps[d]? = some (.bool b):=by rw[<-Array.getElem?_toList];exact h1
     have hd':((⟨all⟩:Array Oper)[j]?).bind (·.dst)=some d:=by simpa using hd
     rw[hd'];simp[h1']
    split at h
    ·rename_i hbw;refine .inl ⟨h,fun p tmps ht=>?_⟩
     simp only[Region.wanted,hg,hy p tmps ht,hbw];simp
    ·rename_i hbw;refine .inr ⟨h,fun p tmps ht=>?_⟩
     simp only[Region.wanted,hg,hy p tmps ht];simpa using hbw
   ·rename_i hb;refine .inr ⟨h,fun p tmps ht=>?_⟩
    have:t[d]? = some (.tup []):=by
     cases e:t[d]? with
     |none=>rw[List.getD_eq_getElem?_getD,e]at hb;simp at hb
     |some x=>rw[List.getD_eq_getElem?_getD,e]at hb;simp at hb;rw[hb]
    obtain⟨v,h1,h2⟩:=ht.get this;simp only[VR]at h2;obtain⟨vs,rfl,h3⟩:=h2;have hd':((⟨all⟩:Array Oper)[j]?).bind (·.dst)=some d:=by simpa using hd
    have h1':tmps[d]? = some (.tuple ⟨vs⟩):=by rw[<-Array.getElem?_toList];exact h1
    have hy:yielded ⟨all⟩ tmps j=none:=by unfold yielded;rw[hd'];simp[h1']
    simp only[Region.wanted,hg,hy];rfl
   ·simp at h
  ·simp at h
theorem VRs.q58 {p:Phi} {t:List AV} {a:Act} (h:VRs p t a.tmps.toList) (d:Option Tmp) {v:AV} {cv:Value} (hv:VR p v cv):VRs p (q58 t d v) (a.put d cv).tmps.toList:=by
 cases d with
 |none=>exact h
 |some d=>simp only[Abs.q58,q7k,Act.put,Array.toList_setIfInBounds];exact h.set d hv
theorem q2H (a:Act) (d:Option Tmp) (v:Value):(a.put d v).defers=a.defers:=by cases d<;>rfl
def z1r (P:Program) (all:List Oper) (idx:List Nat) (t:List AV) (m:Mem) (t':List AV) (m':Mem):Prop:=
 m.next<=m'.next/\∀(p:Phi) (a:Act) (w:World),MR P p m w->GP P<=m.next->q5x p m.next m'.next->VRs p t a.tmps.toList->∀(b:Frame) (k:List Item) (cs:List Frame),
  ∃p' a' w',VRs p' t' a'.tmps.toList/\a'.defers=a.defers/\Sim P p m w p' m' w'/\Steps P (lone (b.atR a (.inRegion ⟨all⟩ idx::k)) cs w) (lone (b.atR a' (.inRegion ⟨all⟩ []::k)) cs w')
theorem z1r.cons {all:List Oper} {o:Oper} {i:Nat} (hi:all[i]? = some o) {idx:List Nat} {t:List AV} {m:Mem} {v:AV} {m1:Mem} {t':List AV} {m':Mem}
  (hw:∀(p:Phi) (tmps:Array Value),VRs p t tmps.toList->Region.wanted o (yielded ⟨all⟩ tmps)=true) (h:z4E P o t m v m1) (h':z1r P all idx (q58 t o.dst v) m1 t' m'):z1r P all (i::idx) t m t' m':=by
 refine⟨xnt0 h.1 h'.1,fun p a w hm hG hf ht b k cs=>?_⟩
 have hi':(⟨all⟩:Array Oper)[i]? = some o:=by simpa using hi
 obtain⟨cv,p1,w1,hv,hs,hst⟩:=h.2 p a w hm hG (hf.sub (xnr _) h'.1) ht b ⟨all⟩ i idx k cs hi' (hw p a.tmps ht);obtain⟨p',a',w',k1,k2,k3,k4⟩:=h'.2 p1 _ w1 hs.rel (xnt0 hG hs.next) (hf.step hs) ((ht.mono hs.le).q58 _ hv) b k cs
 exact⟨p',a',w',k1,k2.trans (q2H _ _ _),hs.trans k3 hf,Steps.trans hst k4⟩
theorem z1r.skip {all:List Oper} {o:Oper} {i:Nat} (hi:all[i]? = some o) {idx:List Nat} {t:List AV} {m:Mem} {t':List AV} {m':Mem}
  (hw:∀(p:Phi) (tmps:Array Value),VRs p t tmps.toList->Region.wanted o (yielded ⟨all⟩ tmps)=false) (h':z1r P all idx (q58 t o.dst (.tup [])) m t' m'):z1r P all (i::idx) t m t' m':=by
 refine⟨h'.1,fun p a w hm hG hf ht b k cs=>?_⟩
 have hi':(⟨all⟩:Array Oper)[i]? = some o:=by simpa using hi
 have hs:=stepR_op_skip (P:=P) (b:=b) (a:=a) (k:=k) (cs:=cs) (w:=w) (ops:=⟨all⟩) (i:=i) (rest:=idx) (by simp only[hi',xom,Option.getD_some];exact hw p a.tmps ht);simp only[hi',Option.bind_some]at hs;obtain⟨p',a',w',k1,k2,k3,k4⟩:=h'.2 p _ w hm hG hf (ht.q58 _ (by simp only[VR];exact⟨[],rfl,by simp[VRs]⟩)) b k cs;exact⟨p',a',w',k1,k2.trans (q2H _ _ _),k3,.head hs k4⟩
theorem q4o {call:q02} (hcall:q1E P call) {all:List Oper}:∀(os:List Oper) (i:Nat),(∀j,os[j]? = all[i+j]?)->∀{sk:List Tmp} {t:List AV} {m:Mem} {K:List AV->Mem->R} {r:AV×Mem},z5X call P all os sk t m K=some r->
  ∃t' m',K t' m'=some r/\z1r P all (List.range' i os.length) t m t' m'
 |[],i,_,_,t,m,K,r,h=>⟨t,m,h,xnr _,fun p a w hm _ _ ht b k cs=>⟨p,a,w,ht,rfl,Sim.refl hm,.refl _ _⟩⟩
 |o::os,i,hall,_,t,m,K,r,h=>by
  simp only[z5X]at h;have hi:all[i]? = some o:=by have:=hall 0;simpa using this.symm
  have hall':∀j,os[j]? = all[i+1+j]?:=fun j=>by
   have:=hall (j+1);rw[xgs]at this;rw[this];congr 1;omega
  rw[List.length_cons,List.range'_succ];rcases z0C h with ⟨h,hw⟩|⟨h,hw⟩
  ·obtain⟨v,m1,h1,h2⟩:=z94 hcall h;obtain⟨t',m',h3,h4⟩:=q4o hcall os (i+1) hall' h1;exact⟨t',m',h3,.cons hi hw h2 h4⟩
  ·obtain⟨t',m',h3,h4⟩:=q4o hcall os (i+1) hall' h;exact⟨t',m',h3,.skip hi hw h4⟩
end
end
noncomputable section
open Go
section
variable {P:Program}
def Agree (op:Op) (t t':List AV):Prop:=∀x,.tmp x∈op.operands->t.getD x .undef=t'.getD x .undef
theorem q4f {t t':List AV} {x:Operand} (h:∀i,x=.tmp i->t.getD i .undef=t'.getD i .undef):ev P t x=ev P t' x:=by
 cases x with
 |tmp i=>simp only[ev,q70];rw[h i rfl]
 | _=>rfl
theorem q4V {t t':List AV}:∀{xs:List Operand},(∀i,.tmp i∈xs->t.getD i .undef=t'.getD i .undef)->evs P t xs=evs P t' xs
 |[],_=>rfl
 |x::xs,h=>by
  simp only[evs];rw[q4f (x:=x) (fun i e=>h i (by rw[<-e];simp)),q4V (xs:=xs) (fun i e=>h i (by simp[e]))]
theorem q3r {t t':List AV}:∀{xs:List (Nat×Operand)},(∀i,.tmp i∈xs.map (·.2)->t.getD i .undef=t'.getD i .undef)->q3q P t xs=q3q P t' xs
 |[],_=>rfl
 |(k,x)::xs,h=>by
  simp only[q3q];rw[q4f (x:=x) (fun i e=>h i (by rw[<-e];simp)),q3r (xs:=xs) (fun i e=>h i (by simp only[List.map_cons,xmk0];exact .inr e))]
theorem z0Z {op:Op} {t t':List AV} (h:Agree op t t'):q5l P op t=q5l P op t':=by
 have E:∀x,x∈op.operands->ev P t x=ev P t' x:=fun x hx=>q4f fun i e=>h i (e▸hx)
 unfold Agree at h;unfold q5l;split<;>simp only[Op.operands]at E h
 case h_15=>rw[E _ (by simp)]
 all_goals first
  |(rw[E _ (by simp)];done)
  |(rw[E _ (by simp),E _ (by simp)];done)
  |skip
 case h_3 c a b=>rw[E c (by simp),E a (by simp),E b (by simp)]
 case h_12 s x lo hi=>
  rw[E x (by simp)];cases lo with
  |none=>cases hi with
   |none=>rfl
   |some b=>simp only[];rw[E b (by simp)]
  |some a=>cases hi with
   |none=>simp only[];rw[E a (by simp)]
   |some b=>simp only[];rw[E a (by simp),E b (by simp)]
 case h_13 s x lo hi mx=>
  rw[E x (by simp),E hi (by simp),E mx (by simp)];cases lo with
  |none=>rfl
  |some a=>simp only[];rw[E a (by simp)]
 case h_16 f first cap=>
  rw[q4V (xs:=first.toList) (fun i e=>h i (by simp;left;simpa using e)),q4V (xs:=cap.toList) (fun i e=>h i (by simp;right;simpa using e))]
 case h_17 s parts=>rw[q3r (xs:=parts.toList) (fun i e=>h i (by simpa using e))]
 case h_18 x s=>rw[E x (by simp[Call.operands])]
 case h_19 x s=>rw[E x (by simp[Call.operands])]
 case h_20 x y s=>rw[E x (by simp[Call.operands]),E y (by simp[Call.operands])]
 case h_21 x y s=>rw[E x (by simp[Call.operands]),E y (by simp[Call.operands])]
 case h_22=>rfl
theorem z01 {op:Op} {t t':List AV} (h:Agree op t t') (m:Mem):q1Y P op t m=q1Y P op t' m:=by
 have E:∀x,x∈op.operands->ev P t x=ev P t' x:=fun x hx=>q4f fun i e=>h i (e▸hx)
 unfold q1Y;split<;>simp only[Op.operands]at E
 ·rw[E _ (by simp)]
 ·rw[E _ (by simp)]
 ·rename_i s x k ok;rw[E x (by simp),E k (by simp)]
 ·rename_i x s;rw[E x (by simp[Call.operands])]
 ·rfl
theorem q8p {op:Op} {t t':List AV} (h:Agree op t t'):q25 P op t=q25 P op t':=by
 have E:∀x,x∈op.operands->ev P t x=ev P t' x:=fun x hx=>q4f fun i e=>h i (e▸hx)
 unfold Agree at h;unfold q25;cases op<;>simp only[Op.operands]at E h
 case box e x=>simp only[];rw[E x (by simp)]
 case buildSlice s len parts=>
  simp only[];rw[q3r (xs:=parts.toList) (fun i e=>h i (by simpa using e))]
 case makeSlice s l c=>simp only[];rw[E l (by simp),E c (by simp)]
 case convert a b x=>simp only[];rw[E x (by simp)]
 case makeMap s r=>cases r<;>rfl
 all_goals rfl
def j7c (call:q02) (P:Program) (op:Op) (t:List AV) (m:Mem):R:=z2C call P op t m fun v m'=>some (v,m')
theorem z6J (call:q02) (op:Op) (t:List AV) (m:Mem) (K:AV->Mem->R):z2C call P op t m K=(j7c call P op t m).bind fun r=>K r.1 r.2:=by
 unfold j7c z2C;split
 all_goals simp only[Option.bind_assoc,Option.bind_some,Option.bind_none]
theorem z4Q {op:Op} {t t':List AV} (h:Agree op t t') (call:q02) (m:Mem):j7c call P op t m=j7c call P op t' m:=by
 have E:∀x,x∈op.operands->ev P t x=ev P t' x:=fun x hx=>q4f fun i e=>h i (e▸hx)
 unfold Agree at h;unfold j7c z2C;split<;>simp only[Op.operands]at E h
 ·rename_i a b c;rw[E b (by simp),E c (by simp)]
 ·rename_i a b c d;rw[E a (by simp[Call.operands]),E b (by simp[Call.operands])]
 ·rename_i a b c d;rw[E a (by simp[Call.operands]),E b (by simp[Call.operands])]
 ·rename_i s x k v;rw[E x (by simp),E k (by simp),E v (by simp)]
 ·rename_i s x k v;rw[E x (by simp),E k (by simp),E v (by simp)]
 ·rename_i x k s ts;rw[E x (by simp[Call.operands]),E k (by simp[Call.operands])]
 ·rename_i x s ts;rw[E x (by simp[Call.operands])]
 ·rename_i f xs ts;rw[E f (by simp[Call.operands]),q4V (xs:=xs) (fun i e=>h i (by simp[Call.operands,e]))]
 ·rfl
theorem q7N {call:q02} (hcall:q1E P call) {o:Oper} {t:List AV} {m:Mem} {v:AV} {m':Mem} (h:j7c call P o.op t m=some (v,m')):z4E P o t m v m':=by
 obtain⟨v',m1,h1,h2⟩:=q7M hcall (o:=o) (K:=fun v m'=>some (v,m')) h
 cases h1;exact h2
def q4a (ops:List Oper) (o:Oper) (t:List AV):Option Bool:=
 match o.guard with
 |none=>some true
 |some (j,want)=>match (ops[j]?).bind (·.dst) with
  |some d=>match t.getD d .undef with
   | .bool b=>some (b==want)
   | .tup []=>some false
   | _=>none
  |none=>none
theorem q88 {all:List Oper} {o:Oper} {t:List AV} {sk:List Tmp} {y n:List AV->R} {r:AV×Mem} (h:q3L sk all o t y n=some r):(q4a all o t=some true/\y t=some r)\/(q4a all o t=some false/\n t=some r):=by
 replace h:=q63 h
 unfold q87 at h;unfold q4a;split at h
 ·rename_i hg;left;refine⟨?_,h⟩;simp only[hg]
 ·rename_i j want hg;split at h
  ·rename_i d hd;split at h
   ·rename_i b hb;split at h
    ·rename_i hbw;left;refine⟨?_,h⟩;simp only[hg,hd,hb,hbw,beq_self_eq_true]
    ·rename_i hbw;right;refine⟨?_,h⟩;simp only[hg,hd,hb];simpa using hbw
   ·rename_i hb;right;refine⟨?_,h⟩;simp only[hg,hd,hb]
   ·simp at h
  ·simp at h
theorem z1m {all:List Oper} {o:Oper} {t:List AV} {b:Bool} (h:q4a all o t=some b) (p:Phi) (tmps:Array Value) (ht:∀d,(match o.guard with|some (j,_)=>(all[j]?).bind (·.dst)|none=>none)=some d->VR p (t.getD d .undef) (tmps.getD d undef)/\d<tmps.size) :
  Region.wanted o (yielded ⟨all⟩ tmps)=b:=by
 unfold q4a at h;split at h
 ·rename_i hg;cases h;simp[Region.wanted,hg]
 ·rename_i j want hg;split at h
  ·rename_i d hd;split at h
   ·rename_i c hb;cases h;obtain⟨h1,h2⟩:=ht d (by simp only[hg];exact hd);rw[hb]at h1;simp only[VR]at h1;have h3:tmps[d]? = some (.bool c):=by
     rw[Array.getElem?_eq_getElem h2];rw[Array.getD_eq_getD_getElem?,Array.getElem?_eq_getElem h2]at h1;simpa using h1
    have hd':((⟨all⟩:Array Oper)[j]?).bind (·.dst)=some d:=by simpa using hd
    simp only[Region.wanted,hg,yielded,hd',Option.bind_some,h3];cases c<;>cases want<;>rfl
   ·rename_i hb;cases h;obtain⟨h1,h2⟩:=ht d (by simp only[hg];exact hd);rw[hb]at h1;simp only[VR]at h1;obtain⟨vs,h1,_⟩:=h1;have h3:tmps[d]? = some (.tuple ⟨vs⟩):=by
     rw[Array.getElem?_eq_getElem h2];rw[Array.getD_eq_getD_getElem?,Array.getElem?_eq_getElem h2]at h1;simpa using h1
    have hd':((⟨all⟩:Array Oper)[j]?).bind (·.dst)=some d:=by simpa using hd
    simp only[Region.wanted,hg,yielded,hd',Option.bind_some,h3];cases want<;>rfl
   ·simp at h
  ·simp at h
theorem q6I {m:Mem} {c:List Nat} {K:R} {r:AV×Mem}:∀{rs:List (Nat×(Mem->Option AV)×AV)},z5V m c rs K=some r->K=some r/\∀j f v,(j,f,v)∈rs->j∈c->f m=some v
 |[],h=>⟨h,by simp⟩
 |(j,f,v)::rs,h=>by
  simp only[z5V]at h;split at h
  ·rename_i hj;split at h
   ·rename_i hf;obtain⟨h1,h2⟩:=q6I h;refine⟨h1,fun j' f' v' hm hc=>?_⟩
    rcases xmk0.1 hm with e|e
    ·cases e;exact hf
    ·exact h2 _ _ _ e hc
   ·simp at h
  ·rename_i hj;obtain⟨h1,h2⟩:=q6I h;refine⟨h1,fun j' f' v' hm hc=>?_⟩
   rcases xmk0.1 hm with e|e
   ·cases e;exact absurd hc hj
   ·exact h2 _ _ _ e hc
theorem q6J {f:Mem->Option AV} {v:AV} {c:List Nat} {K:R} {r:AV×Mem}:∀{es:List (Nat×Mem)},z5W f v c es K=some r->K=some r/\∀j m,(j,m)∈es->j∈c->f m=some v
 |[],h=>⟨h,by simp⟩
 |(j,m)::es,h=>by
  simp only[z5W]at h;split at h
  ·rename_i hj;split at h
   ·rename_i hf;obtain⟨h1,h2⟩:=q6J h;refine⟨h1,fun j' m' hm hc=>?_⟩
    rcases xmk0.1 hm with e|e
    ·cases e;exact hf
    ·exact h2 _ _ e hc
   ·simp at h
  ·rename_i hj;obtain⟨h1,h2⟩:=q6J h;refine⟨h1,fun j' m' hm hc=>?_⟩
   rcases xmk0.1 hm with e|e
   ·cases e;exact absurd hc hj
   ·exact h2 _ _ e hc
structure Trace where
 T:Nat->List AV
 M:Nat->Mem
 W:Nat->Bool
 V:Nat->AV
structure q6E (P:Program) (call:q02) (all:List Oper) (chk:List (List Nat)) (τ:Trace) (j:Nat) (o:Oper):Prop where
 wanted:q4a all o (τ.T j)=some (τ.W j)
 tmps:τ.T (j+1)=q58 (τ.T j) o.dst (τ.V j)
 off:τ.W j=false->τ.V j=.tup []/\τ.M (j+1)=τ.M j
 pure:τ.W j=true->cls P o.op=.p->q5l P o.op (τ.T j)=some (τ.V j)/\τ.M (j+1)=τ.M j
 read:τ.W j=true->cls P o.op=.r->q1Y P o.op (τ.T j) (τ.M j)=some (τ.V j)/\τ.M (j+1)=τ.M j
 a8Z:τ.W j=true->cls P o.op=.r->∀k ok,k<j->all[k]? = some ok->τ.W k=true->cls P ok.op=.e->k∈chk.getD j []->q1Y P o.op (τ.T j) (τ.M k)=some (τ.V j)
 alloc:τ.W j=true->cls P o.op=.a->∃cs mk,q25 P o.op (τ.T j)=some (cs,mk)/\τ.V j=mk (τ.M j).next/\τ.M (j+1)=(τ.M j).lay cs
 eff:τ.W j=true->cls P o.op=.e->j7c call P o.op (τ.T j) (τ.M j)=some (τ.V j,τ.M (j+1))
 a9C:τ.W j=true->cls P o.op=.e->∀k ok,k<j->all[k]? = some ok->τ.W k=true->cls P ok.op=.r->k∈chk.getD j []->q1Y P ok.op (τ.T k) (τ.M (j+1))=some (τ.V k)
def Trace.upd (τ:Trace) (i:Nat) (t:List AV) (m:Mem) (w:Bool) (v:AV):Trace where
 T:=fun j=>if j=i then t else τ.T j
 M:=fun j=>if j=i then m else τ.M j
 W:=fun j=>if j=i then w else τ.W j
 V:=fun j=>if j=i then v else τ.V j
theorem q4H {call:q02} {all:List Oper} {chk:List (List Nat)}:∀(os:List Oper) (cs:List (List Nat)) (sk:List Tmp) (i:Nat) (h:Seen) (t:List AV) (m:Mem) (τ:Trace) {K:List AV->Mem->R} {r:AV×Mem},
  (∀j,os[j]? = all[i+j]?)->(∀j,cs[j]? = chk[i+j]?)->
  (∀k ok,k<i->all[k]? = some ok->τ.W k=true->cls P ok.op=.r->(k,q1Y P ok.op (τ.T k),τ.V k)∈h.rs)->
  (∀k ok,k<i->all[k]? = some ok->τ.W k=true->cls P ok.op=.e->(k,τ.M k)∈h.es)->
  q2l call P all cs os sk i h t m K=some r->
  ∃σ:Trace,(∀j,j<i->σ.T j=τ.T j/\σ.M j=τ.M j/\σ.W j=τ.W j/\σ.V j=τ.V j)/\σ.T i=t/\σ.M i=m/\K (σ.T (i+os.length)) (σ.M (i+os.length))=some r/\
   ∀j o,i<=j->j<i+os.length->all[j]? = some o->q6E P call all chk σ j o
 |[],cs,_,i,h,t,m,τ,K,r,_,_,_,_,hr=>by
  have hr':K t m=some r:=by cases cs<;>simpa[q2l]using hr
  refine⟨τ.upd i t m false .undef,fun j hj=>?_,by simp[Trace.upd],by simp[Trace.upd],by simpa[Trace.upd]using hr',fun j o h1 h2=>by simp at h2;omega⟩
  simp[Trace.upd,show j≠i by omega]
 |o::os,[],_,i,h,t,m,τ,K,r,_,_,_,_,hr=>by simp[q2l]at hr
 |o::os,c::cs,sk,i,h,t,m,τ,K,r,hall,hchk,hrs,hes,hr=>by
  have hi:all[i]? = some o:=by have:=hall 0;simpa using this.symm
  have hci:chk.getD i []=c:=by have:=hchk 0;rw[List.getD_eq_getElem?_getD];simp at this;simp[<-this]
  have hall':∀j,os[j]? = all[i+1+j]?:=fun j=>by
   have:=hall (j+1);rw[xgs]at this;rw[this];congr 1;omega
  have hchk':∀j,cs[j]? = chk[i+1+j]?:=fun j=>by
   have:=hchk (j+1);rw[xgs]at this;rw[this];congr 1;omega
  have glue:∀{sk':List Tmp} (b:Bool) (v:AV) (m':Mem) (h':Seen) ,q4a all o t=some b->
    q2l call P all cs os sk' (i+1) h' (q58 t o.dst v) m' K=some r->
    (∀x,x∈h.rs->x∈h'.rs)->(∀x,x∈h.es->x∈h'.es)->
    (b=true->cls P o.op=.r->(i,q1Y P o.op t,v)∈h'.rs)->(b=true->cls P o.op=.e->(i,m)∈h'.es)->
    (∀σ:Trace,(∀j,j<i->σ.T j=τ.T j/\σ.M j=τ.M j/\σ.W j=τ.W j/\σ.V j=τ.V j)->σ.T i=t->σ.M i=m->σ.W i=b->σ.V i=v->σ.T (i+1)=q58 t o.dst v->σ.M (i+1)=m'->q6E P call all chk σ i o)->
    ∃σ:Trace,(∀j,j<i->σ.T j=τ.T j/\σ.M j=τ.M j/\σ.W j=τ.W j/\σ.V j=τ.V j)/\σ.T i=t/\σ.M i=m/\K (σ.T (i+(o::os).length)) (σ.M (i+(o::os).length))=some r/\
     ∀j o',i<=j->j<i+(o::os).length->all[j]? = some o'->q6E P call all chk σ j o':=by
   intro sk' b v m' h' hw hd hrs' hes' hri hei hstep;obtain⟨σ,s1,s2,s3,s4,s5⟩:=q4H os cs sk' (i+1) h' (q58 t o.dst v) m' (τ.upd i t m b v) hall' hchk'
    (fun k ok hk hok hwk hc=>by
     by_cases e:k=i
     ·subst e;rw[hi]at hok;cases hok;simp only[Trace.upd,if_true]at hwk⊢;exact hri hwk hc
     ·simp only[Trace.upd,if_neg e]at hwk⊢;exact hrs' _ (hrs k ok (by omega) hok hwk hc))
    (fun k ok hk hok hwk hc=>by
     by_cases e:k=i
     ·subst e;rw[hi]at hok;cases hok;simp only[Trace.upd,if_true]at hwk⊢;exact hei hwk hc
     ·simp only[Trace.upd,if_neg e]at hwk⊢;exact hes' _ (hes k ok (by omega) hok hwk hc)) hd
   have hlow:∀j,j<i->σ.T j=τ.T j/\σ.M j=τ.M j/\σ.W j=τ.W j/\σ.V j=τ.V j:=fun j hj=>by
    have:=s1 j (by omega);simpa[Trace.upd,show j≠i by omega]using this
   have hhere:σ.T i=t/\σ.M i=m/\σ.W i=b/\σ.V i=v:=by
    have:=s1 i (by omega);simpa[Trace.upd]using this
   refine⟨σ,hlow,hhere.1,hhere.2.1,?_,fun j o' h1 h2 h3=>?_⟩
   ·rw[show i+(o::os).length=i+1+os.length by simp;omega];exact s4
   ·by_cases e:j=i
    ·subst e;rw[hi]at h3;cases h3;exact hstep σ hlow hhere.1 hhere.2.1 hhere.2.2.1 hhere.2.2.2 s2 s3
    ·exact s5 j o' (by omega) (by simp at h2;omega) h3
  simp only[q2l]at hr;rcases q88 hr with ⟨hw,hr⟩|⟨hw,hr⟩
  ·split at hr
   ·rename_i hc;obtain⟨v,hv,hr⟩:=be hr;refine glue true v m h hw hr (fun _ h=>h) (fun _ h=>h) (fun _ e=>absurd (hc.symm.trans e) (by decide)) (fun _ e=>absurd (hc.symm.trans e) (by decide)) fun σ _ a1 a2 a3 a4 a5 a6=>?_
    exact⟨by rw[a1,a3];exact hw,by rw[a5,a1,a4],by simp[a3],fun _ _=>by rw[a1,a4,a6,a2];exact⟨hv,rfl⟩,fun _ e=>absurd (hc.symm.trans e) (by decide),fun _ e=>absurd (hc.symm.trans e) (by decide),
     fun _ e=>absurd (hc.symm.trans e) (by decide),fun _ e=>absurd (hc.symm.trans e) (by decide),fun _ e=>absurd (hc.symm.trans e) (by decide)⟩
   ·rename_i hc;obtain⟨v,hv,hr⟩:=be hr;obtain⟨hr,hck⟩:=q6J hr;refine glue true v m _ hw hr (fun _ h=>by simp[h]) (fun _ h=>h) (fun _ _=>by simp) (fun _ e=>absurd (hc.symm.trans e) (by decide)) fun σ a0 a1 a2 a3 a4 a5 a6=>?_
    refine⟨by rw[a1,a3];exact hw,by rw[a5,a1,a4],by simp[a3],fun _ e=>absurd (hc.symm.trans e) (by decide),fun _ _=>by rw[a1,a4,a6,a2];exact⟨hv,rfl⟩,fun _ _ k ok hk hok hwk hck' hmem=>?_,
     fun _ e=>absurd (hc.symm.trans e) (by decide),fun _ e=>absurd (hc.symm.trans e) (by decide),fun _ e=>absurd (hc.symm.trans e) (by decide)⟩
    obtain⟨b1,b2,b3,b4⟩:=a0 k hk;rw[a1,a4,b2];exact hck k _ (hes k ok hk hok (by rw[<-b3];exact hwk) hck') (by rw[hci]at hmem;exact hmem)
   ·rename_i hc;obtain⟨⟨cs',mk⟩,hv,hr⟩:=be hr;refine glue true _ _ h hw hr (fun _ h=>h) (fun _ h=>h) (fun _ e=>absurd (hc.symm.trans e) (by decide)) (fun _ e=>absurd (hc.symm.trans e) (by decide)) fun σ _ a1 a2 a3 a4 a5 a6=>?_
    exact⟨by rw[a1,a3];exact hw,by rw[a5,a1,a4],by simp[a3],fun _ e=>absurd (hc.symm.trans e) (by decide),fun _ e=>absurd (hc.symm.trans e) (by decide),fun _ e=>absurd (hc.symm.trans e) (by decide),
     fun _ _=>⟨cs',mk,by rw[a1];exact hv,by rw[a4,a2],by rw[a6,a2]⟩,fun _ e=>absurd (hc.symm.trans e) (by decide),fun _ e=>absurd (hc.symm.trans e) (by decide)⟩
   ·rename_i hc;rw[z6J]at hr;obtain⟨⟨v,m'⟩,hv,hr⟩:=be hr;obtain⟨hr,hck⟩:=q6I hr;refine glue true v m' _ hw hr (fun _ h=>h) (fun _ h=>by simp[h]) (fun _ e=>absurd (hc.symm.trans e) (by decide)) (fun _ _=>by simp) fun σ a0 a1 a2 a3 a4 a5 a6=>?_
    refine⟨by rw[a1,a3];exact hw,by rw[a5,a1,a4],by simp[a3],fun _ e=>absurd (hc.symm.trans e) (by decide),fun _ e=>absurd (hc.symm.trans e) (by decide),fun _ e=>absurd (hc.symm.trans e) (by decide),
     fun _ e=>absurd (hc.symm.trans e) (by decide),fun _ _=>by rw[a1,a2,a4,a6];exact hv,fun _ _ k ok hk hok hwk hck' hmem=>?_⟩
    obtain⟨b1,b2,b3,b4⟩:=a0 k hk;rw[a6,b1,b4];exact hck k _ _ (hrs k ok hk hok (by rw[<-b3];exact hwk) hck') (by rw[hci]at hmem;exact hmem)
  ·refine glue false (.tup []) m h hw hr (fun _ h=>h) (fun _ h=>h) (fun e=>absurd e (by decide)) (fun e=>absurd e (by decide)) fun σ _ a1 a2 a3 a4 a5 a6=>?_
   exact⟨by rw[a1,a3];exact hw,by rw[a5,a1,a4],fun _=>by rw[a4,a6,a2];exact⟨rfl,rfl⟩,fun e=>absurd (a3.symm.trans e) (by decide),fun e=>absurd (a3.symm.trans e) (by decide),fun e=>absurd (a3.symm.trans e) (by decide),
    fun e=>absurd (a3.symm.trans e) (by decide),fun e=>absurd (a3.symm.trans e) (by decide),fun e=>absurd (a3.symm.trans e) (by decide)⟩
end
end
section
open Go
section
variable {P:Program}
theorem q6x {all:List Oper} {anc chk:List (List Nat)} (h:rOk P all anc chk=true) {j:Nat} {oj:Oper} (hj:all[j]? = some oj) :
  z2y anc j oj=true/\∀i oi,i<j->all[i]? = some oi->z4l P all anc chk i j oi oj=true:=by
 have hlt:j<all.length:=(xgi.1 hj).1;have h1:=List.all_eq_true.1 h j (List.mem_range.2 hlt);simp only[rowOk,hj,Bool.and_eq_true]at h1;refine⟨h1.1,fun i oi hi hoi=>?_⟩
 have:=List.all_eq_true.1 h1.2 i (List.mem_range.2 hi);simpa only [hoi]using this
theorem a1r {all:List Oper} {anc chk:List (List Nat)} (h:rOk P all anc chk=true) {S:Nat->Bool} (hS:∀j o,all[j]? = some o->S j=true->∀e∈q2m o,S e=true) :
  ∀(j:Nat) (o:Oper),all[j]? = some o->(∀e∈q2m o,S e=true)->∀x∈anc.getD j [],S x=true:=by
 intro j;induction j using Nat.strongRecOn with
 | _ j ih=>
  intro o ho he x hx;have h1:=(q6x h ho).1;simp only[z2y,Bool.and_eq_true]at h1;have h2:=List.all_eq_true.1 h1.1.2 x hx;have h3:=List.all_eq_true.1 h1.1.1;rw[Bool.or_eq_true]at h2;rcases h2 with h2|h2
  ·exact he x (by simpa using h2)
  ·obtain⟨e,h4,h5⟩:=List.any_eq_true.1 h2;have hlt:e<j:=by simpa using h3 e h4
   have hoe:∃oe,all[e]? = some oe:=⟨all[e]'(by have:=(xgi.1 ho).1;omega),by rw[xgq]⟩;obtain⟨oe,hoe⟩:=hoe;exact ih e hlt oe hoe (hS e oe hoe (he e h4)) x (by simpa using h5)
def q5G (all:List Oper) (k:Nat):Option Tmp:=(all[k]?).bind (·.dst)
noncomputable def q5T (all:List Oper) (V:Nat->AV) (S:Nat->Bool) (t:List AV) (k:Nat):List AV:=if S k then q58 t (q5G all k) (V k) else t
noncomputable def q3a (all:List Oper) (V:Nat->AV) (S:Nat->Bool) (t0:List AV):List AV:=(List.range all.length).foldl (q5T all V S) t0
theorem z1w (t:List AV) (d:Option Tmp) (v:AV):(q58 t d v).length=t.length:=by cases d<;>simp[q58,q7k]
theorem q3S (t:List AV) (d:Option Tmp) (v:AV) (x:Nat) (hx:x<t.length):(q58 t d v).getD x .undef=if d=some x then v else t.getD x .undef:=by
 cases d with
 |none=>simp[q58]
 |some d=>
  simp only[q58,q7k,List.getD_eq_getElem?_getD,xoi];by_cases e:d=x
  ·subst e;simp[hx]
  ·rw[List.getElem?_set_ne e,if_neg e]
theorem q1S (all:List Oper) (V:Nat->AV) (S:Nat->Bool) (t:List AV) (k:Nat):(q5T all V S t k).length=t.length:=by
 unfold q5T;split
 ·exact z1w _ _ _
 ·rfl
theorem q1m (all:List Oper) (V:Nat->AV) (S:Nat->Bool):∀(l:List Nat) (t:List AV),(l.foldl (q5T all V S) t).length=t.length
 |[],_=>rfl
 |k::l,t=>by rw[List.foldl_cons,q1m all V S l,q1S]
theorem q4K (all:List Oper) (V:Nat->AV) {S S':Nat->Bool} {x:Nat}:∀(l:List Nat) (t t':List AV),(∀k∈l,q5G all k=some x->S k=S' k)->x<t.length->t.length=t'.length->t.getD x .undef=t'.getD x .undef->
  (l.foldl (q5T all V S) t).getD x .undef=(l.foldl (q5T all V S') t').getD x .undef
 |[],_,_,_,_,_,h=>h
 |k::l,t,t',hS,hx,hl,h=>by
  rw[List.foldl_cons,List.foldl_cons];refine q4K all V l _ _ (fun j hj=>hS j (by simp[hj])) (by rw[q1S];exact hx) (by rw[q1S,q1S];exact hl) ?_
  unfold q5T;by_cases hd:q5G all k=some x
  ·rw[hS k (by simp) hd];split
   ·rw[q3S _ _ _ _ hx,q3S _ _ _ _ (by omega),hd];simp
   ·exact h
  ·have e1:∀(b:Bool) (t:List AV),x<t.length->(if b=true then q58 t (q5G all k) (V k) else t).getD x .undef=t.getD x .undef:=by
    intro b t ht;cases b with
    |false=>rfl
    |true=>rw[if_pos rfl,q3S _ _ _ _ ht,if_neg hd]
   rw[e1 _ _ hx,e1 _ _ (by omega)];exact h
theorem q4h (all:List Oper) (V:Nat->AV) {S:Nat->Bool} {x:Nat}:∀(l:List Nat) (t:List AV),(∀k∈l,S k=true->q5G all k≠some x)->x<t.length->(l.foldl (q5T all V S) t).getD x .undef=t.getD x .undef
 |[],_,_,_=>rfl
 |k::l,t,hS,hx=>by
  rw[List.foldl_cons,q4h all V l _ (fun j hj=>hS j (by simp[hj])) (by rw[q1S];exact hx)]
  unfold q5T;split
  ·rename_i h;rw[q3S _ _ _ _ hx,if_neg (hS k (by simp) h)]
  ·rfl
theorem range_split {n i:Nat} (h:i<n):List.range n=List.range i++i::List.range' (i+1) (n-(i+1)):=by
 rw[List.range_eq_range',List.range_eq_range'];have:n=i+(1+(n-(i+1))):=by omega
 conv=>lhs;rw[this]
 rw[<-List.range'_append_1];congr 1;rw[xnz,Nat.add_comm 1,List.range'_succ]
theorem z5T {all:List Oper} {V:Nat->AV} {S:Nat->Bool} {t0:List AV} {i x:Nat} (hi:i<all.length) (hSi:S i=true) (hd:q5G all i=some x) (hx:x<t0.length)
  (hlast:∀k,i<k->S k=true->q5G all k≠some x):(q3a all V S t0).getD x .undef=V i:=by
 unfold q3a;rw[range_split hi,List.foldl_append,List.foldl_cons];rw[q4h all V _ _ (fun k hk hS=>hlast k (by have:=List.mem_range'_1.1 hk;omega) hS) (by rw[q1S,q1m];exact hx)]
 have hlen:=q1m all V S (List.range i) t0;generalize (List.range i).foldl (q5T all V S) t0=f at *;unfold q5T;rw[if_pos hSi,q3S _ _ _ _ (by omega),if_pos hd]
theorem a9e {call:q02} {all:List Oper} {chk:List (List Nat)} {τ:Trace} (hτ:∀j o,j<all.length->all[j]? = some o->q6E P call all chk τ j o) :
  ∀j,j<=all.length->τ.T j=(List.range j).foldl (q5T all τ.V fun _=>true) (τ.T 0):=by
 intro j;induction j with
 |zero=>intro _;rfl
 |succ j ih=>
  intro hj;have ho:all[j]? = some (all[j]'(by omega)):=xgq (by omega);rw[List.range_succ,List.foldl_append,<-ih (by omega),(hτ j _ (by omega) ho).tmps];simp[q5T,q5G,ho]
theorem q6d {call:q02} {all:List Oper} {chk:List (List Nat)} {τ:Trace} (hτ:∀j o,j<all.length->all[j]? = some o->q6E P call all chk τ j o) {j:Nat} (hj:j<=all.length):(τ.T j).length=(τ.T 0).length:=by
 rw[a9e hτ j hj,q1m]
theorem j47 {call:q02} {all:List Oper} {chk:List (List Nat)} {τ:Trace} (hτ:∀j o,j<all.length->all[j]? = some o->q6E P call all chk τ j o) {j:Nat} (hj:j<=all.length) {S:Nat->Bool} {x:Nat} (hx:x<(τ.T 0).length)
  (hS:∀k,k<all.length->q5G all k=some x->S k=decide (k<j)):(q3a all τ.V S (τ.T 0)).getD x .undef=(τ.T j).getD x .undef:=by
 rw[a9e hτ j hj];unfold q3a;have hsp:List.range all.length=List.range j++List.range' j (all.length-j):=by
  rw[List.range_eq_range',List.range_eq_range']
  conv=>lhs;rw[show all.length=j+(all.length-j) by omega]
  rw[<-List.range'_append_1,xnz]
 rw[hsp,List.foldl_append];rw[q4h all τ.V _ _ (fun k hk hSk hd=>by
  have:=List.mem_range'_1.1 hk;rw[hS k (by omega) hd]at hSk;simp at hSk;omega) (by rw[q1m];exact hx)]
 exact q4K all τ.V _ _ _ (fun k hk hd=>by
  have:=List.mem_range.1 hk;rw[hS k (by omega) hd];simp;omega) hx rfl rfl
end
end
end Go.Abs
