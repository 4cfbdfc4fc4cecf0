/- Texts of one claim, put together. -/
import Derived.Test.YtlginbmjiecglaaGreatDoorK7
import Derived.KernelRfl
namespace Go.Abs
section
open Go
section
variable {P:Program}
theorem MR.congr {p:Phi} {m m2:Mem} {w:World} (h:MR P p m w) (hn:m.next=m2.next) (hg:∀b,m.get b=m2.get b):MR P p m2 w where
 has:=fun b v ci h1 h2=>h.has b v ci (by rw[hg];exact h1) h2
 inj:=fun b ci b2 ci2 h1 h2 h3 h4=>by rw[<-hg]at h1⊢;rw[<-hn];exact h.inj b ci b2 ci2 h1 h2 h3 h4
 bnd:=h.bnd
 q21:=h.q21
theorem Sim.congr {p p':Phi} {m m1 m2:Mem} {w w':World} (h:Sim P p m w p' m1 w') (hn:m1.next=m2.next) (hg:∀b,m1.get b=m2.get b):Sim P p m w p' m2 w' where
 le:=h.le
 out:=fun b hb=>h.out b (by rw[hn];exact hb)
 next:=by rw[<-hn];exact h.next
 rel:=h.rel.congr hn hg
 q39:=fun b h1 h2=>by rw[<-hg];exact h.q39 b h1 h2
 dead:=fun b h1 h2=>by rw[<-hg];exact h.dead b h1 h2
 q3f:=h.q3f
 fresh:=fun b ci h1 h2 h3=>h.fresh b ci h1 (by rw[hn];exact h2) h3
 ro:=fun b cs ci h1 h2=>by rw[<-hg];exact h.ro b cs ci h1 h2
 size:=h.size
 os:=h.os
 output:=h.output
 tape:=h.tape
theorem Sim.widen {p:Phi} {m:Mem} {w:World} (h:MR P p m w) {b:Nat} {cs:List AV} {ci:CI} (hb:m.get b=some (.cells cs false)) (hp:p b=some ci) :
  cs.length<=ci.n-ci.d/\Sim P p m w p (m.put b (some (.cells (cs++List.replicate (ci.n-ci.d-cs.length) .undef) false))) w:=by
 obtain⟨arr,el,fr,h1,h2,h3,h4⟩:=h.live b cs false ci hb hp;have hl:cs.length<=ci.n-ci.d:=by
  by_cases h0:cs.length=0
  ·omega
  ·obtain⟨v,hv,_⟩:=h4 (cs.length-1) (cs[cs.length-1]'(by omega)) (xgq (by omega));have:=(Array.getElem?_eq_some_iff.1 hv).1;omega
 refine⟨hl,Sim.turn h hb hp h1 h2 (h3 rfl) (fun i a hi=>?_) (fun _ _=>rfl) rfl rfl rfl rfl⟩
 by_cases hi2:i<cs.length
 ·rw[List.getElem?_append_left hi2]at hi;exact h4 i a hi
 ·rw[List.getElem?_append_right (by omega),List.getElem?_replicate]at hi;split at hi
  ·rename_i hlt;cases hi;have:ci.d+i<arr.size:=by omega
   exact⟨arr[ci.d+i],Array.getElem?_eq_getElem this,by simp[VR]⟩
  ·cases hi
noncomputable def q8p (P:Program) (st:TypeId) (args:List AV) (m:Mem):R:=
 match P.underlying st with
 |some (.slice e)=>(szT P e).bind fun sz=>(q4Q P e).bind fun w=>(q3M P e).bind fun zs=>
  match args with
  |[s,.int .i64 i,.sl (some x) sx lx cx ex]=>(q3V sz (.sl (some x) sx lx cx ex) m).bind fun kn=>
   if 0<kn.1/\0<=i/\kn.2.all AV.one=true then
    match s with
    | .sl none _ 0 0 _=>if i=0 then q0X sz w s (.sl (some x) sx lx cx ex) m else none
    | .sl (some a) s' len cap ex'=>
     if i=len then (if s'=sz\/ex'=true then q0X sz w s (.sl (some x) sx lx cx ex) m else none)
     else if i<len/\s'=sz/\ex'=false/\x.b≠a.b/\0<sz/\0<w/\zs.length=sz/\(len+kn.1)*w<=q06/\len<=cap then
      match m.get x.b,m.get a.b with
      |some (.cells _ false),some (.cells _ false)=>(q0G m a (len*sz)).bind fun old=>
       if old.all AV.one=true then
        some (.sl (some ⟨m.next,0⟩) sz (len+kn.1) (len+kn.1) false,(m.put a.b none).alloc (old.take (i.toNat*sz)++kn.2++old.drop (i.toNat*sz)))
       else none
      | _,_=>none
     else none
    | _=>none
   else none
  | _=>none
 | _=>none
structure q4W (E:Env) (f:FuncId) (st:TypeId) (sz w:Nat) (zs:List AV):Prop where
 fin:∀(s x:AV) (_n k:Nat) (new:List AV) (sa:Option AA) (sz0 len cap:Nat) (ex:Bool) (xa:AA) (sx cx:Nat) (exx:Bool) (m:Mem) (r:AV×Mem),s=.sl sa sz0 len cap ex->x=.sl (some xa) sx k cx exx->q3V sz x m=some (k,new)->0<k->new.all AV.one=true->
  ((∃a,sa=some a/\(sz0=sz\/ex=true))\/sa=none/\len=0/\cap=0)->q0X sz w s x m=some r->run E (.fn f) [s,.int .i64 len,x] m=some r
 room:∀(a:AA) (len cap i k:Nat) (xa:AA) (sx cx:Nat) (exx:Bool) (cs old new:List AV) (m:Mem),m.get a.b=some (.cells cs false)->a.o+cap*sz<=cs.length->(cs.drop a.o).take (len*sz)=old->old.all AV.one=true->(∃ds,m.get xa.b=some (.cells ds false))->xa.b≠a.b->
  q3V sz (.sl (some xa) sx k cx exx) m=some (k,new)->new.all AV.one=true->0<k->0<sz->0<w->zs.length=sz->i<len->(len+k)*w<=q06->len+k<=cap->
  ∃m2,run E (.fn f) [.sl (some a) sz len cap true,.int .i64 i,.sl (some xa) sx k cx exx] m=some (.sl (some a) sz (len+k) cap true,m2)/\m2.next=m.next/\(∀b,b≠a.b->m2.get b=m.get b)/\
   m2.get a.b=some (.cells (cs.take (a.o+i*sz)++new++old.drop (i*sz)++cs.drop (a.o+(len+k)*sz)) false)
 grow:∀(a:AA) (len cap i k:Nat) (xa:AA) (sx cx:Nat) (exx:Bool) (cs old new:List AV) (m:Mem),m.get a.b=some (.cells cs false)->a.o+cap*sz<=cs.length->(cs.drop a.o).take (len*sz)=old->old.all AV.one=true->(∃ds,m.get xa.b=some (.cells ds false))->xa.b≠a.b->
  q3V sz (.sl (some xa) sx k cx exx) m=some (k,new)->new.all AV.one=true->0<k->0<sz->0<w->zs.length=sz->i<len->(len+k)*w<=q06->len<=cap->cap<len+k->
  ∃m2,run E (.fn f) [.sl (some a) sz len cap true,.int .i64 i,.sl (some xa) sx k cx exx] m=some (.sl (some ⟨m.next,0⟩) sz (len+k) (len+k) false,m2)/\m2.next=m.next+1/\(∀b,b≠m.next->m2.get b=m.get b)/\
   m2.get m.next=some (.cells (old.take (i*sz)++new++old.drop (i*sz)) false)
theorem z6z {sz k:Nat} {x:AA} {sx lx cx:Nat} {ex:Bool} {m:Mem} {new:List AV} (h:q3V sz (.sl (some x) sx lx cx ex) m=some (k,new)):k=lx:=by
 unfold q3V at h;simp only at h;split at h
 ·obtain⟨cs,_,e⟩:=xoe.1 h;cases e;rfl
 ·cases h
theorem z6A {sz:Nat} {x:AA} {sx lx cx:Nat} {ex:Bool} {m:Mem} {b:Nat} {v:Option Blk} (h:x.b≠b):q3V sz (.sl (some x) sx lx cx ex) (m.put b v)=q3V sz (.sl (some x) sx lx cx ex) m:=by
 unfold q3V q0G;simp only[Mem.get_put,if_neg (fun (e:x.b=b/\b<m.next)=>h e.1)]
theorem q1S {E : Env} (hE : q1u E) {f : FuncId} {st e : TypeId} {sz w : Nat} {zs : List AV} (hst : E.P.underlying st = some (.slice e)) (hsz : szT E.P e = some sz) (hw : q4Q E.P e = some w) (hz : q3M E.P e = some zs) (hf : ∃ fn, E.P.funcs[f]? = some fn ∧ fn.body.isSome = true ∧ fn.name ≠ "runtime.NumGoroutine")
  (ht:q4W E f st sz w zs) (args:List AV) (m:Mem) (r:AV) (m':Mem) (h:q8p E.P st args m=some (r,m')):z8t E.P (.fn f) args m r m':=by
 unfold q8p at h;simp only[hst,hsz,hw,hz,Option.bind_some]at h;split at h
 ·rename_i s i x sx lx cx ex;obtain⟨⟨k,new⟩,h1,hA⟩:=be h;clear h;have hk:=z6z h1;subst hk;split at hA
  ·rename_i hc;simp only at hc;obtain⟨c1,c2,c3⟩:=hc;split at hA
   ·rename_i s0 ex0;split at hA
    ·rename_i hi;subst hi;exact q2A hE _ _ _ _ _ (ht.fin _ _ 0 k new none s0 0 0 ex0 x sx cx ex m (r,m') rfl rfl h1 c1 c3 (.inr ⟨rfl,rfl,rfl⟩) hA)
    ·cases hA
   ·rename_i a s' len cap ex';split at hA
    ·rename_i hi;subst hi;split at hA
     ·rename_i hs;exact q2A hE _ _ _ _ _ (ht.fin _ _ len k new (some a) s' len cap ex' x sx cx ex m (r,m') rfl rfl h1 c1 c3 (.inl ⟨a,rfl,hs⟩) hA)
     ·cases hA
    ·split at hA
     ·rename_i hni hcc;obtain⟨d1,rfl,rfl,d3,d4,d5,d6,d7,d8⟩:=hcc;split at hA
      ·rename_i xs cs hx ha;obtain⟨old,h2,hB⟩:=be hA;clear hA;split at hB
       ·rename_i hone;cases hB;obtain⟨i,rfl⟩:=Int.eq_ofNat_of_zero_le c2;simp only[Int.toNat_natCast];have hil:i<len:=by omega
        refine⟨by simp,fun p w0 cargs hm hG hfree hv=>.inl ?_⟩
        obtain⟨fn,g1,g2,g3⟩:=hf;refine⟨fn,g1,g2,g3,?_⟩;simp only[VRs]at hv;obtain⟨v1,_,rfl,hv1,v2,_,rfl,hv2,v3,_,rfl,hv3,rfl⟩:=hv;have hv1':=hv1;simp only[VR,SR]at hv1';obtain⟨ci,off,cap',q1,rfl,q2,q3,q4,q5,q6⟩:=hv1';have q5:=q5 trivial;have ho:off=a.o+ci.d:=q6 (by omega);subst ho;obtain⟨wl,hwide⟩:=Sim.widen hm ha q1;generalize hcs:cs++List.replicate (ci.n-ci.d-cs.length) .undef=cs1 at hwide;have hl1:cs1.length=ci.n-ci.d:=by rw[<-hcs];simp;omega
        generalize hm1:m.put a.b (some (.cells cs1 false))=m1 at hwide;have hal:=Mem.q0x ha;have ha1:m1.get a.b=some (.cells cs1 false):=by rw[<-hm1,Mem.get_put,if_pos ⟨rfl,hal⟩]
        have hoth:∀b,b≠a.b->m1.get b=m.get b:=fun b hb=>by rw[<-hm1,Mem.get_put,if_neg (fun e=>hb e.1)]
        have hnext1:m1.next=m.next:=by rw[<-hm1];rfl
        obtain⟨cs0,ro0,e1,e2,e3⟩:=q1Z h2;rw[ha]at e1;cases e1;have hold:(cs1.drop a.o).take (len*s')=old:=by
         rw[e3,<-hcs,List.drop_append_of_le_length (by omega),List.take_append_of_le_length (by simp;omega)]
        have hfit:a.o+cap'*s'<=cs1.length:=by rw[hl1];omega
        have hsrc:q3V s' (.sl (some x) sx k cx ex) m1=some (k,new):=by rw[<-hm1,z6A d3];exact h1
        have hx1:∃ds,m1.get x.b=some (.cells ds false):=⟨xs,by rw[hoth _ d3];exact hx⟩;have hargs:VRs p [.sl (some a) s' len cap' true,.int .i64 (i:Int),.sl (some x) sx k cx ex] [.slice (some ⟨ci.c,a.o+ci.d,none⟩) len cap',v2,v3]:=by
         simp only[VRs];refine⟨_,_,rfl,?_,_,_,rfl,hv2,_,_,rfl,hv3,rfl⟩;simp only[VR,SR];exact⟨ci,a.o+ci.d,cap',q1,rfl,by omega,xnr _,fun _=>rfl,by simp,fun _=>rfl⟩
        by_cases hroom:len+k<=cap'
        ·obtain⟨m2,r1,r2,r3,r4⟩:=ht.room a len cap' i k x sx cx ex cs1 old new m1 ha1 hfit hold hone hx1 d3 hsrc c3 c1 d4 d5 d6 hil d7 hroom;have hok:=q2A hE _ _ _ _ _ r1;refine(q4s hok g1 g2 g3 hwide.rel (by rw[hnext1];exact hG) (fun b x1 x2=>by omega) hargs).mono ?_
         rintro e0 w1 ⟨cv,p1,rfl,k1,k2⟩
         have hp1:∀b,p1 b=p b:=fun b=>k2.out b (by omega)
         simp only[VR,SR]at k1;obtain⟨ci1,off1,cap1,j1,rfl,j2,j3,j4,j5,j6⟩:=k1;rw[hp1,q1]at j1;cases j1;have hcap:cap1=cap':=j4 trivial;subst hcap;have hoff1:off1=a.o+ci.d:=j6 (by omega);subst hoff1;obtain⟨arr,el,fr,f1,f2,f3,f4⟩:=k2.rel.live _ _ _ _ r4 (by rw[hp1];exact q1);have hfree2:p1 m2.next=none:=by rw[hp1,r2,hnext1];exact hfree _ (xnr _) (by simp)
         have hlo:(old.take (i*s')).length=i*s':=by
          rw[xlt0,<-hold,xlt0,xld0];have:i*s'<=len*s':=Nat.mul_le_mul_right _ (by omega);have:len*s'<=cap1*s':=Nat.mul_le_mul_right _ (by omega);omega
         have htake:=Sim.z6C (P:=E.P) (d:=a.o+ci.d) (cs':=old.take (i*s')++new++old.drop (i*s')) k2.rel (by rw[r2,hnext1];exact hG) r4 (by rw[hp1];exact q1) hfree2 f1 f2 (f3 rfl) (fun j y hj=>by
          obtain⟨v,u1,u2⟩:=f4 (a.o+j) y (by
           have hpre:cs1.take (a.o+i*s')=cs1.take a.o++old.take (i*s'):=by
            rw[<-hold,List.take_take,Nat.min_eq_left (Nat.mul_le_mul_right _ (by omega)),<-List.take_add]
           have hao:(cs1.take a.o).length=a.o:=by rw[xlt0];have:0<=cap1*s':=Nat.zero_le _;omega
           rw[hpre];simp only[List.append_assoc];rw[List.getElem?_append_right (by omega),hao,Nat.add_sub_cancel_left];rw[<-List.append_assoc,<-List.append_assoc,List.getElem?_append_left (by have:=(xgi.1 hj).1;simpa[Nat.add_assoc]using this)];exact hj)
          exact⟨v,by rw[<-Nat.add_assoc,Nat.add_comm ci.d a.o]at u1;exact u1,u2⟩) (fun _ _=>rfl) rfl rfl rfl rfl
         refine⟨_,_,rfl,?_,((hwide.trans k2 (fun b x1 x2=>by omega)).trans htake ?_).congr ?_ ?_⟩
         ·simp only[VR,SR];refine⟨⟨ci.c,a.o+ci.d,ci.n⟩,a.o+ci.d,cap1,by simp[r2,hnext1],rfl,xnr _,by omega,by simp,fun _=>by simpa using q5,fun _=>by simp⟩
         ·intro b x1 x2;simp[r2,hnext1]at x2;exact hfree b x1 (by simpa using x2)
         ·simp[r2,hnext1]
         ·intro b;rw[Mem.q2V,Mem.q2V,Mem.q4C,Mem.q4C,r2,hnext1,Mem.get_put,Mem.get_put];by_cases e:b=m.next
          ·simp[e]
          ·rw[if_neg e,if_neg e];by_cases e2:b=a.b
           ·subst e2;rw[if_pos ⟨rfl,by omega⟩,if_pos ⟨rfl,hal⟩]
           ·rw[if_neg (fun y=>e2 y.1),if_neg (fun y=>e2 y.1),r3 b e2,hoth b e2]
        ·obtain⟨m2,r1,r2,r3,r4⟩:=ht.grow a len cap' i k x sx cx ex cs1 old new m1 ha1 hfit hold hone hx1 d3 hsrc c3 c1 d4 d5 d6 hil d7 (by omega) (by omega);have hok:=q2A hE _ _ _ _ _ r1;have hfree1:q55 p m1.next m2.next:=by intro b x1 x2;rw[r2,hnext1]at x2;rw[hnext1]at x1;exact hfree b x1 (by simpa using x2)
         refine(q4s hok g1 g2 g3 hwide.rel (by rw[hnext1];exact hG) hfree1 hargs).mono ?_;rintro e0 w1 ⟨cv,p1,rfl,k1,k2⟩
         have ha2:m2.get a.b=some (.cells cs1 false):=by rw[r3 a.b (by omega)];exact ha1
         have hpa:p1 a.b=some ci:=k2.le _ _ q1;have hkill:=Sim.kill k2.rel ha2 hpa;refine⟨cv,p1,rfl,by rw[hnext1]at k1;exact k1,((hwide.trans k2 (by rw[<-hnext1];exact hfree1)).trans hkill ?_).congr ?_ ?_⟩
         ·intro b x1 x2;simp only[Mem.q4C,r2,hnext1]at x2;exact hfree b x1 (by simpa using x2)
         ·simp[r2,hnext1]
         ·intro b;rw[Mem.q2V,Mem.q4C,Mem.get_put,Mem.get_put];by_cases e:b=m.next
          ·subst e;rw[if_neg (by omega),if_pos rfl,<-hnext1,r4]
          ·rw[if_neg e];by_cases e2:b=a.b
           ·subst e2;rw[if_pos ⟨rfl,by omega⟩,if_pos ⟨rfl,hal⟩]
           ·rw[if_neg (fun y=>e2 y.1),if_neg (fun y=>e2 y.1),r3 b (by omega),hoth b e2]
       ·cases hB
      ·cases hA
     ·cases hA
   ·cases hA
  ·cases hA
 ·cases h
end
end
end Go.Abs
namespace Go.Proofs.YtlginbmjiecglaaGreatDoor
section
open Go Go.Abs
set_option maxRecDepth 4000
theorem looks:(List.range 196).all (z9B Tryz.prog hints)=true:=by kernel_rfl
noncomputable def H0 (f:FuncId):Option (List AV->Mem->R):=
 match f with
 | 59=>some q4O
 | 60=>some q8h
 | 120=>some q0R
 | 122=>some q0R
 | 124=>some q0R
 | 128=>some q0R
 | 130=>some q0R
 | _=>none
noncomputable def E0:Env:=z7b Tryz.prog hints H0
theorem q8q:q1u E0:=q9r (by kernel_rfl) 196 (fun f h=>by
  unfold hints;rw[List.getElem?_eq_none (by show 196<=f;exact h)];rfl) (fun f h=>List.all_eq_true.1 looks f (List.mem_range.2 h)) (fun f h e=>by
  unfold H0 at e;split at e
  ·have e1:=xsj e;subst e1;exact q9a (P:=Tryz.prog) (fn:=Tryz.f59) Tryz.func59 (by kernel_rfl) (by kernel_rfl) (by kernel_rfl) (by kernel_rfl)
  ·have e1:=xsj e;subst e1;exact z0u (P:=Tryz.prog) (fn:=Tryz.f60) Tryz.func60 (by kernel_rfl) (by kernel_rfl) (by kernel_rfl) (by kernel_rfl)
  ·have e1:=xsj e;subst e1;exact q02 (P:=Tryz.prog) (fn:=Tryz.f120) (st:=140) (tr:=4) (e:=9) (sz:=1) Tryz.func120 (by kernel_rfl) (by kernel_rfl) (by kernel_rfl) (by kernel_rfl) (by kernel_rfl) (by kernel_rfl)
  ·have e1:=xsj e;subst e1;exact q02 (P:=Tryz.prog) (fn:=Tryz.f122) (st:=23) (tr:=4) (e:=56) (sz:=4) Tryz.func122 (by kernel_rfl) (by kernel_rfl) (by kernel_rfl) (by kernel_rfl) (by kernel_rfl) (by kernel_rfl)
  ·have e1:=xsj e;subst e1;exact q02 (P:=Tryz.prog) (fn:=Tryz.f124) (st:=24) (tr:=4) (e:=74) (sz:=9) Tryz.func124 (by kernel_rfl) (by kernel_rfl) (by kernel_rfl) (by kernel_rfl) (by kernel_rfl) (by kernel_rfl)
  ·have e1:=xsj e;subst e1;exact q02 (P:=Tryz.prog) (fn:=Tryz.f128) (st:=149) (tr:=4) (e:=26) (sz:=1) Tryz.func128 (by kernel_rfl) (by kernel_rfl) (by kernel_rfl) (by kernel_rfl) (by kernel_rfl) (by kernel_rfl)
  ·have e1:=xsj e;subst e1;exact q02 (P:=Tryz.prog) (fn:=Tryz.f130) (st:=25) (tr:=4) (e:=54) (sz:=4) Tryz.func130 (by kernel_rfl) (by kernel_rfl) (by kernel_rfl) (by kernel_rfl) (by kernel_rfl) (by kernel_rfl)
  ·cases e)
end
noncomputable section
open Go Go.Abs
set_option maxRecDepth 4000
abbrev uu:AV:=.undef
def a7O (t0 t1 t2 t7:AV) (m:Mem):R:=q8o E0 83 0 ([t0,t1,t2,uu,uu,uu,uu,t7]++List.replicate 87 uu) m
def a7P (t0 t1 t2 t7 t8:AV) (m:Mem):R:=q8o E0 83 1 ([t0,t1,t2,uu,uu,uu,uu,t7,t8]++List.replicate 86 uu) m
def a7Q (t0 t1 t2 t7 t8:AV) (m:Mem):R:=q8o E0 83 2 ([t0,t1,t2,uu,uu,uu,uu,t7,t8]++List.replicate 86 uu) m
def a7R (t0 t1 t2 t7 t8:AV) (m:Mem):R:=q8o E0 83 3 ([t0,t1,t2,uu,uu,uu,uu,t7,t8]++List.replicate 86 uu) m
theorem j5g (t0 t1 t2 t7:AV) (m:Mem):a7O t0 t1 t2 t7 m =
 Option.bind (q2X Tryz.prog 140 t0) fun x0=>
 Option.bind (q0S Tryz.prog .eql 3 t1 x0) fun x1=>
 q0a x1 (
  Option.bind (q0X 1 16 t0 t2 m) fun r2=>
  some (r2.1,r2.2)) (
  a7P t0 t1 t2 t7 x0 m):=
 q1r 400 (by kernel_rfl)
theorem j5h (t0 t1 t2 t7 t8:AV) (m:Mem):a7P t0 t1 t2 t7 t8 m =
 Option.bind (q0S Tryz.prog .add 3 t8 t7) fun x0=>
 Option.bind (z8K Tryz.prog 140 t0) fun x1=>
 Option.bind (q0S Tryz.prog .gtr 3 x0 x1) fun x2=>
 q0a x2 (
  Option.bind (q0s Tryz.prog 140 t0 none (some t1)) fun x3=>
  Option.bind (q0S Tryz.prog .add 3 t8 t7) fun x4=>
  Option.bind (q0S Tryz.prog .sub 3 x4 t1) fun x5=>
  Option.bind (q2k Tryz.prog 140 x3 x5 m) fun r6=>
  Option.bind (q0s Tryz.prog 140 r6.1 (some t1) none) fun x7=>
  Option.bind (q1H 1 x7 t2 r6.2) fun r8=>
  Option.bind (q0S Tryz.prog .add 3 t1 t7) fun x9=>
  Option.bind (q0s Tryz.prog 140 r6.1 (some x9) none) fun x10=>
  Option.bind (q0s Tryz.prog 140 t0 (some t1) none) fun x11=>
  Option.bind (q1H 1 x10 x11 r8.2) fun r12=>
  some (r6.1,r12.2)) (
  a7Q t0 t1 t2 t7 t8 m):=
 q1r 400 (by kernel_rfl)
theorem j5i (t0 t1 t2 t7 t8:AV) (m:Mem):a7Q t0 t1 t2 t7 t8 m =
 Option.bind (q0S Tryz.prog .add 3 t8 t7) fun x0=>
 Option.bind (q0s Tryz.prog 140 t0 none (some x0)) fun x1=>
 Option.bind (q0S Tryz.prog .add 3 t1 t7) fun x2=>
 Option.bind (q0s Tryz.prog 140 x1 (some x2) none) fun x3=>
 Option.bind (run E0 (.fn 120) [t2,x3] m) fun r4=>
 Option.bind (unA .not r4.1) fun x5=>
 q0a x5 (
  Option.bind (q0S Tryz.prog .add 3 t1 t7) fun x6=>
  Option.bind (q0s Tryz.prog 140 x1 (some x6) none) fun x7=>
  Option.bind (q0s Tryz.prog 140 x1 (some t1) none) fun x8=>
  Option.bind (q1H 1 x7 x8 r4.2) fun r9=>
  Option.bind (q0s Tryz.prog 140 x1 (some t1) none) fun x10=>
  Option.bind (q1H 1 x10 t2 r9.2) fun r11=>
  some (x1,r11.2)) (
  a7R x1 t1 t2 t7 t8 r4.2):=
 q1r 400 (by kernel_rfl)
theorem j5j (t0 t1 t2 t7 t8:AV) (m:Mem):a7R t0 t1 t2 t7 t8 m =
 Option.bind (q0s Tryz.prog 140 t0 (some t8) none) fun x0=>
 Option.bind (q1H 1 x0 t2 m) fun r1=>
 Option.bind (q0s Tryz.prog 140 t0 (some t1) none) fun x2=>
 Option.bind (run E0 (.fn 121) [x2,t7] r1.2) fun r3=>
 some (t0,r3.2):=
 q1r 400 (by kernel_rfl)
theorem a5r (a0 a1 a2:AV) (m:Mem):run E0 (.fn 83) [a0,a1,a2] m =
 Option.bind (q0s Tryz.prog 140 a0 (some a1) none) fun _=>
 Option.bind (q2X Tryz.prog 140 a2) fun x1=>
 Option.bind (q0S Tryz.prog .eql 3 x1 (.int .i64 0)) fun x2=>
 q0a x2 (
  some (a0,m)) (
  a7O a0 a1 a2 x1 m):=
 run_eq 400 rfl (by kernel_rfl) (by kernel_rfl)
def a7S (t0 t1 t2 t7:AV) (m:Mem):R:=q8o E0 84 0 ([t0,t1,t2,uu,uu,uu,uu,t7]++List.replicate 87 uu) m
def a7T (t0 t1 t2 t7 t8:AV) (m:Mem):R:=q8o E0 84 1 ([t0,t1,t2,uu,uu,uu,uu,t7,t8]++List.replicate 86 uu) m
def a7U (t0 t1 t2 t7 t8:AV) (m:Mem):R:=q8o E0 84 2 ([t0,t1,t2,uu,uu,uu,uu,t7,t8]++List.replicate 86 uu) m
def a7V (t0 t1 t2 t7 t8:AV) (m:Mem):R:=q8o E0 84 3 ([t0,t1,t2,uu,uu,uu,uu,t7,t8]++List.replicate 86 uu) m
theorem j5k (t0 t1 t2 t7:AV) (m:Mem):a7S t0 t1 t2 t7 m =
 Option.bind (q2X Tryz.prog 23 t0) fun x0=>
 Option.bind (q0S Tryz.prog .eql 3 t1 x0) fun x1=>
 q0a x1 (
  Option.bind (q0X 4 40 t0 t2 m) fun r2=>
  some (r2.1,r2.2)) (
  a7T t0 t1 t2 t7 x0 m):=
 q1r 400 (by kernel_rfl)
theorem j5l (t0 t1 t2 t7 t8:AV) (m:Mem):a7T t0 t1 t2 t7 t8 m =
 Option.bind (q0S Tryz.prog .add 3 t8 t7) fun x0=>
 Option.bind (z8K Tryz.prog 23 t0) fun x1=>
 Option.bind (q0S Tryz.prog .gtr 3 x0 x1) fun x2=>
 q0a x2 (
  Option.bind (q0s Tryz.prog 23 t0 none (some t1)) fun x3=>
  Option.bind (q0S Tryz.prog .add 3 t8 t7) fun x4=>
  Option.bind (q0S Tryz.prog .sub 3 x4 t1) fun x5=>
  Option.bind (q2k Tryz.prog 23 x3 x5 m) fun r6=>
  Option.bind (q0s Tryz.prog 23 r6.1 (some t1) none) fun x7=>
  Option.bind (q1H 4 x7 t2 r6.2) fun r8=>
  Option.bind (q0S Tryz.prog .add 3 t1 t7) fun x9=>
  Option.bind (q0s Tryz.prog 23 r6.1 (some x9) none) fun x10=>
  Option.bind (q0s Tryz.prog 23 t0 (some t1) none) fun x11=>
  Option.bind (q1H 4 x10 x11 r8.2) fun r12=>
  some (r6.1,r12.2)) (
  a7U t0 t1 t2 t7 t8 m):=
 q1r 400 (by kernel_rfl)
theorem j5m (t0 t1 t2 t7 t8:AV) (m:Mem):a7U t0 t1 t2 t7 t8 m =
 Option.bind (q0S Tryz.prog .add 3 t8 t7) fun x0=>
 Option.bind (q0s Tryz.prog 23 t0 none (some x0)) fun x1=>
 Option.bind (q0S Tryz.prog .add 3 t1 t7) fun x2=>
 Option.bind (q0s Tryz.prog 23 x1 (some x2) none) fun x3=>
 Option.bind (run E0 (.fn 122) [t2,x3] m) fun r4=>
 Option.bind (unA .not r4.1) fun x5=>
 q0a x5 (
  Option.bind (q0S Tryz.prog .add 3 t1 t7) fun x6=>
  Option.bind (q0s Tryz.prog 23 x1 (some x6) none) fun x7=>
  Option.bind (q0s Tryz.prog 23 x1 (some t1) none) fun x8=>
  Option.bind (q1H 4 x7 x8 r4.2) fun r9=>
  Option.bind (q0s Tryz.prog 23 x1 (some t1) none) fun x10=>
  Option.bind (q1H 4 x10 t2 r9.2) fun r11=>
  some (x1,r11.2)) (
  a7V x1 t1 t2 t7 t8 r4.2):=
 q1r 400 (by kernel_rfl)
theorem j5n (t0 t1 t2 t7 t8:AV) (m:Mem):a7V t0 t1 t2 t7 t8 m =
 Option.bind (q0s Tryz.prog 23 t0 (some t8) none) fun x0=>
 Option.bind (q1H 4 x0 t2 m) fun r1=>
 Option.bind (q0s Tryz.prog 23 t0 (some t1) none) fun x2=>
 Option.bind (run E0 (.fn 123) [x2,t7] r1.2) fun r3=>
 some (t0,r3.2):=
 q1r 400 (by kernel_rfl)
theorem a5s (a0 a1 a2:AV) (m:Mem):run E0 (.fn 84) [a0,a1,a2] m =
 Option.bind (q0s Tryz.prog 23 a0 (some a1) none) fun _=>
 Option.bind (q2X Tryz.prog 23 a2) fun x1=>
 Option.bind (q0S Tryz.prog .eql 3 x1 (.int .i64 0)) fun x2=>
 q0a x2 (
  some (a0,m)) (
  a7S a0 a1 a2 x1 m):=
 run_eq 400 rfl (by kernel_rfl) (by kernel_rfl)
def a7W (t0 t1 t2 t7:AV) (m:Mem):R:=q8o E0 85 0 ([t0,t1,t2,uu,uu,uu,uu,t7]++List.replicate 87 uu) m
def a7X (t0 t1 t2 t7 t8:AV) (m:Mem):R:=q8o E0 85 1 ([t0,t1,t2,uu,uu,uu,uu,t7,t8]++List.replicate 86 uu) m
def a7Y (t0 t1 t2 t7 t8:AV) (m:Mem):R:=q8o E0 85 2 ([t0,t1,t2,uu,uu,uu,uu,t7,t8]++List.replicate 86 uu) m
def a7Z (t0 t1 t2 t7 t8:AV) (m:Mem):R:=q8o E0 85 3 ([t0,t1,t2,uu,uu,uu,uu,t7,t8]++List.replicate 86 uu) m
theorem j5o (t0 t1 t2 t7:AV) (m:Mem):a7W t0 t1 t2 t7 m =
 Option.bind (q2X Tryz.prog 24 t0) fun x0=>
 Option.bind (q0S Tryz.prog .eql 3 t1 x0) fun x1=>
 q0a x1 (
  Option.bind (q0X 9 88 t0 t2 m) fun r2=>
  some (r2.1,r2.2)) (
  a7X t0 t1 t2 t7 x0 m):=
 q1r 400 (by kernel_rfl)
theorem j5p (t0 t1 t2 t7 t8:AV) (m:Mem):a7X t0 t1 t2 t7 t8 m =
 Option.bind (q0S Tryz.prog .add 3 t8 t7) fun x0=>
 Option.bind (z8K Tryz.prog 24 t0) fun x1=>
 Option.bind (q0S Tryz.prog .gtr 3 x0 x1) fun x2=>
 q0a x2 (
  Option.bind (q0s Tryz.prog 24 t0 none (some t1)) fun x3=>
  Option.bind (q0S Tryz.prog .add 3 t8 t7) fun x4=>
  Option.bind (q0S Tryz.prog .sub 3 x4 t1) fun x5=>
  Option.bind (q2k Tryz.prog 24 x3 x5 m) fun r6=>
  Option.bind (q0s Tryz.prog 24 r6.1 (some t1) none) fun x7=>
  Option.bind (q1H 9 x7 t2 r6.2) fun r8=>
  Option.bind (q0S Tryz.prog .add 3 t1 t7) fun x9=>
  Option.bind (q0s Tryz.prog 24 r6.1 (some x9) none) fun x10=>
  Option.bind (q0s Tryz.prog 24 t0 (some t1) none) fun x11=>
  Option.bind (q1H 9 x10 x11 r8.2) fun r12=>
  some (r6.1,r12.2)) (
  a7Y t0 t1 t2 t7 t8 m):=
 q1r 400 (by kernel_rfl)
theorem j5q (t0 t1 t2 t7 t8:AV) (m:Mem):a7Y t0 t1 t2 t7 t8 m =
 Option.bind (q0S Tryz.prog .add 3 t8 t7) fun x0=>
 Option.bind (q0s Tryz.prog 24 t0 none (some x0)) fun x1=>
 Option.bind (q0S Tryz.prog .add 3 t1 t7) fun x2=>
 Option.bind (q0s Tryz.prog 24 x1 (some x2) none) fun x3=>
 Option.bind (run E0 (.fn 124) [t2,x3] m) fun r4=>
 Option.bind (unA .not r4.1) fun x5=>
 q0a x5 (
  Option.bind (q0S Tryz.prog .add 3 t1 t7) fun x6=>
  Option.bind (q0s Tryz.prog 24 x1 (some x6) none) fun x7=>
  Option.bind (q0s Tryz.prog 24 x1 (some t1) none) fun x8=>
  Option.bind (q1H 9 x7 x8 r4.2) fun r9=>
  Option.bind (q0s Tryz.prog 24 x1 (some t1) none) fun x10=>
  Option.bind (q1H 9 x10 t2 r9.2) fun r11=>
  some (x1,r11.2)) (
  a7Z x1 t1 t2 t7 t8 r4.2):=
 q1r 400 (by kernel_rfl)
theorem j5r (t0 t1 t2 t7 t8:AV) (m:Mem):a7Z t0 t1 t2 t7 t8 m =
 Option.bind (q0s Tryz.prog 24 t0 (some t8) none) fun x0=>
 Option.bind (q1H 9 x0 t2 m) fun r1=>
 Option.bind (q0s Tryz.prog 24 t0 (some t1) none) fun x2=>
 Option.bind (run E0 (.fn 125) [x2,t7] r1.2) fun r3=>
 some (t0,r3.2):=
 q1r 400 (by kernel_rfl)
theorem a5t (a0 a1 a2:AV) (m:Mem):run E0 (.fn 85) [a0,a1,a2] m =
 Option.bind (q0s Tryz.prog 24 a0 (some a1) none) fun _=>
 Option.bind (q2X Tryz.prog 24 a2) fun x1=>
 Option.bind (q0S Tryz.prog .eql 3 x1 (.int .i64 0)) fun x2=>
 q0a x2 (
  some (a0,m)) (
  a7W a0 a1 a2 x1 m):=
 run_eq 400 rfl (by kernel_rfl) (by kernel_rfl)
def a8a (t0 t1 t2 t7:AV) (m:Mem):R:=q8o E0 87 0 ([t0,t1,t2,uu,uu,uu,uu,t7]++List.replicate 87 uu) m
def a8b (t0 t1 t2 t7 t8:AV) (m:Mem):R:=q8o E0 87 1 ([t0,t1,t2,uu,uu,uu,uu,t7,t8]++List.replicate 86 uu) m
def a8c (t0 t1 t2 t7 t8:AV) (m:Mem):R:=q8o E0 87 2 ([t0,t1,t2,uu,uu,uu,uu,t7,t8]++List.replicate 86 uu) m
def a8d (t0 t1 t2 t7 t8:AV) (m:Mem):R:=q8o E0 87 3 ([t0,t1,t2,uu,uu,uu,uu,t7,t8]++List.replicate 86 uu) m
theorem j5v (t0 t1 t2 t7:AV) (m:Mem):a8a t0 t1 t2 t7 m =
 Option.bind (q2X Tryz.prog 149 t0) fun x0=>
 Option.bind (q0S Tryz.prog .eql 3 t1 x0) fun x1=>
 q0a x1 (
  Option.bind (q0X 1 8 t0 t2 m) fun r2=>
  some (r2.1,r2.2)) (
  a8b t0 t1 t2 t7 x0 m):=
 q1r 400 (by kernel_rfl)
theorem j5w (t0 t1 t2 t7 t8:AV) (m:Mem):a8b t0 t1 t2 t7 t8 m =
 Option.bind (q0S Tryz.prog .add 3 t8 t7) fun x0=>
 Option.bind (z8K Tryz.prog 149 t0) fun x1=>
 Option.bind (q0S Tryz.prog .gtr 3 x0 x1) fun x2=>
 q0a x2 (
  Option.bind (q0s Tryz.prog 149 t0 none (some t1)) fun x3=>
  Option.bind (q0S Tryz.prog .add 3 t8 t7) fun x4=>
  Option.bind (q0S Tryz.prog .sub 3 x4 t1) fun x5=>
  Option.bind (q2k Tryz.prog 149 x3 x5 m) fun r6=>
  Option.bind (q0s Tryz.prog 149 r6.1 (some t1) none) fun x7=>
  Option.bind (q1H 1 x7 t2 r6.2) fun r8=>
  Option.bind (q0S Tryz.prog .add 3 t1 t7) fun x9=>
  Option.bind (q0s Tryz.prog 149 r6.1 (some x9) none) fun x10=>
  Option.bind (q0s Tryz.prog 149 t0 (some t1) none) fun x11=>
  Option.bind (q1H 1 x10 x11 r8.2) fun r12=>
  some (r6.1,r12.2)) (
  a8c t0 t1 t2 t7 t8 m):=
 q1r 400 (by kernel_rfl)
theorem j5x (t0 t1 t2 t7 t8:AV) (m:Mem):a8c t0 t1 t2 t7 t8 m =
 Option.bind (q0S Tryz.prog .add 3 t8 t7) fun x0=>
 Option.bind (q0s Tryz.prog 149 t0 none (some x0)) fun x1=>
 Option.bind (q0S Tryz.prog .add 3 t1 t7) fun x2=>
 Option.bind (q0s Tryz.prog 149 x1 (some x2) none) fun x3=>
 Option.bind (run E0 (.fn 128) [t2,x3] m) fun r4=>
 Option.bind (unA .not r4.1) fun x5=>
 q0a x5 (
  Option.bind (q0S Tryz.prog .add 3 t1 t7) fun x6=>
  Option.bind (q0s Tryz.prog 149 x1 (some x6) none) fun x7=>
  Option.bind (q0s Tryz.prog 149 x1 (some t1) none) fun x8=>
  Option.bind (q1H 1 x7 x8 r4.2) fun r9=>
  Option.bind (q0s Tryz.prog 149 x1 (some t1) none) fun x10=>
  Option.bind (q1H 1 x10 t2 r9.2) fun r11=>
  some (x1,r11.2)) (
  a8d x1 t1 t2 t7 t8 r4.2):=
 q1r 400 (by kernel_rfl)
theorem j5y (t0 t1 t2 t7 t8:AV) (m:Mem):a8d t0 t1 t2 t7 t8 m =
 Option.bind (q0s Tryz.prog 149 t0 (some t8) none) fun x0=>
 Option.bind (q1H 1 x0 t2 m) fun r1=>
 Option.bind (q0s Tryz.prog 149 t0 (some t1) none) fun x2=>
 Option.bind (run E0 (.fn 129) [x2,t7] r1.2) fun r3=>
 some (t0,r3.2):=
 q1r 400 (by kernel_rfl)
theorem a5v (a0 a1 a2:AV) (m:Mem):run E0 (.fn 87) [a0,a1,a2] m =
 Option.bind (q0s Tryz.prog 149 a0 (some a1) none) fun _=>
 Option.bind (q2X Tryz.prog 149 a2) fun x1=>
 Option.bind (q0S Tryz.prog .eql 3 x1 (.int .i64 0)) fun x2=>
 q0a x2 (
  some (a0,m)) (
  a8a a0 a1 a2 x1 m):=
 run_eq 400 rfl (by kernel_rfl) (by kernel_rfl)
def a8e (t0 t1 t2 t7:AV) (m:Mem):R:=q8o E0 88 0 ([t0,t1,t2,uu,uu,uu,uu,t7]++List.replicate 87 uu) m
def a8f (t0 t1 t2 t7 t8:AV) (m:Mem):R:=q8o E0 88 1 ([t0,t1,t2,uu,uu,uu,uu,t7,t8]++List.replicate 86 uu) m
def a8g (t0 t1 t2 t7 t8:AV) (m:Mem):R:=q8o E0 88 2 ([t0,t1,t2,uu,uu,uu,uu,t7,t8]++List.replicate 86 uu) m
def a8h (t0 t1 t2 t7 t8:AV) (m:Mem):R:=q8o E0 88 3 ([t0,t1,t2,uu,uu,uu,uu,t7,t8]++List.replicate 86 uu) m
theorem j5z (t0 t1 t2 t7:AV) (m:Mem):a8e t0 t1 t2 t7 m =
 Option.bind (q2X Tryz.prog 25 t0) fun x0=>
 Option.bind (q0S Tryz.prog .eql 3 t1 x0) fun x1=>
 q0a x1 (
  Option.bind (q0X 4 40 t0 t2 m) fun r2=>
  some (r2.1,r2.2)) (
  a8f t0 t1 t2 t7 x0 m):=
 q1r 400 (by kernel_rfl)
theorem j5A (t0 t1 t2 t7 t8:AV) (m:Mem):a8f t0 t1 t2 t7 t8 m =
 Option.bind (q0S Tryz.prog .add 3 t8 t7) fun x0=>
 Option.bind (z8K Tryz.prog 25 t0) fun x1=>
 Option.bind (q0S Tryz.prog .gtr 3 x0 x1) fun x2=>
 q0a x2 (
  Option.bind (q0s Tryz.prog 25 t0 none (some t1)) fun x3=>
  Option.bind (q0S Tryz.prog .add 3 t8 t7) fun x4=>
  Option.bind (q0S Tryz.prog .sub 3 x4 t1) fun x5=>
  Option.bind (q2k Tryz.prog 25 x3 x5 m) fun r6=>
  Option.bind (q0s Tryz.prog 25 r6.1 (some t1) none) fun x7=>
  Option.bind (q1H 4 x7 t2 r6.2) fun r8=>
  Option.bind (q0S Tryz.prog .add 3 t1 t7) fun x9=>
  Option.bind (q0s Tryz.prog 25 r6.1 (some x9) none) fun x10=>
  Option.bind (q0s Tryz.prog 25 t0 (some t1) none) fun x11=>
  Option.bind (q1H 4 x10 x11 r8.2) fun r12=>
  some (r6.1,r12.2)) (
  a8g t0 t1 t2 t7 t8 m):=
 q1r 400 (by kernel_rfl)
theorem j5B (t0 t1 t2 t7 t8:AV) (m:Mem):a8g t0 t1 t2 t7 t8 m =
 Option.bind (q0S Tryz.prog .add 3 t8 t7) fun x0=>
 Option.bind (q0s Tryz.prog 25 t0 none (some x0)) fun x1=>
 Option.bind (q0S Tryz.prog .add 3 t1 t7) fun x2=>
 Option.bind (q0s Tryz.prog 25 x1 (some x2) none) fun x3=>
 Option.bind (run E0 (.fn 130) [t2,x3] m) fun r4=>
 Option.bind (unA .not r4.1) fun x5=>
 q0a x5 (
  Option.bind (q0S Tryz.prog .add 3 t1 t7) fun x6=>
  Option.bind (q0s Tryz.prog 25 x1 (some x6) none) fun x7=>
  Option.bind (q0s Tryz.prog 25 x1 (some t1) none) fun x8=>
  Option.bind (q1H 4 x7 x8 r4.2) fun r9=>
  Option.bind (q0s Tryz.prog 25 x1 (some t1) none) fun x10=>
  Option.bind (q1H 4 x10 t2 r9.2) fun r11=>
  some (x1,r11.2)) (
  a8h x1 t1 t2 t7 t8 r4.2):=
 q1r 400 (by kernel_rfl)
theorem j5C (t0 t1 t2 t7 t8:AV) (m:Mem):a8h t0 t1 t2 t7 t8 m =
 Option.bind (q0s Tryz.prog 25 t0 (some t8) none) fun x0=>
 Option.bind (q1H 4 x0 t2 m) fun r1=>
 Option.bind (q0s Tryz.prog 25 t0 (some t1) none) fun x2=>
 Option.bind (run E0 (.fn 131) [x2,t7] r1.2) fun r3=>
 some (t0,r3.2):=
 q1r 400 (by kernel_rfl)
theorem a5w (a0 a1 a2:AV) (m:Mem):run E0 (.fn 88) [a0,a1,a2] m =
 Option.bind (q0s Tryz.prog 25 a0 (some a1) none) fun _=>
 Option.bind (q2X Tryz.prog 25 a2) fun x1=>
 Option.bind (q0S Tryz.prog .eql 3 x1 (.int .i64 0)) fun x2=>
 q0a x2 (
  some (a0,m)) (
  a8e a0 a1 a2 x1 m):=
 run_eq 400 rfl (by kernel_rfl) (by kernel_rfl)
end
end Go.Proofs.YtlginbmjiecglaaGreatDoor
namespace Go.Abs
section
open Go
section ops
variable {P:Program} {t e:TypeId} {sz:Nat}
theorem z1N (ht:P.underlying t=some (.slice e)) (a:Option AA) (s l c:Nat) (ex:Bool):q2X P t (.sl a s l c ex)=some (.int .i64 l):=by simp[q2X,ht]
theorem j6Y (ht:P.underlying t=some (.slice e)) (a:Option AA) (s l c:Nat):z8K P t (.sl a s l c true)=some (.int .i64 c):=by simp[z8K,ht]
theorem q3J (ht:P.underlying t=some (.slice e)) (hs:szT P e=some sz) {a:AA} {s l c i:Nat} {ex:Bool} {k:IntKind} (hx:sz=s\/ex=true) (hi:i<=l) :
  q0s P t (.sl (some a) s l c ex) (some (.int k (i:Int))) none=some (.sl (some ⟨a.b,a.o+i*sz⟩) sz (l-i) (c-i) ex):=by
 simp[q0s,ht,hs,hiA,loA,hi,hx]
theorem z6y (ht:P.underlying t=some (.slice e)) (hs:szT P e=some sz) {a:AA} {s l c h:Nat} {ex:Bool} {k:IntKind} (hx:sz=s\/ex=true) (hh:h<=c) :
  q0s P t (.sl (some a) s l c ex) none (some (.int k (h:Int)))=some (.sl (some a) sz h c ex):=by
 simp[q0s,ht,hs,hiA,loA,hh,hx]
theorem z2l (ht:P.underlying t=some (.slice e)) (hs:szT P e=some sz) {s:Nat} {ex:Bool} {k:IntKind}:q0s P t (.sl none s 0 0 ex) (some (.int k 0)) none=some (.sl none sz 0 0 true):=by
 simp[q0s,ht,hs,hiA,loA]
theorem q9b {ti:TypeId} {x y z:Int} (hz:z=x+y) (h0:-9223372036854775808<=z) (h1:z<9223372036854775808):q0S P .add ti (.int .i64 x) (.int .i64 y)=some (.int .i64 z):=by
 subst hz;simp[q0S,q7h,wrap_i64 h0 h1]
theorem a3I {ti:TypeId} {x y z:Int} (hz:z=x-y) (h0:-9223372036854775808<=z) (h1:z<9223372036854775808):q0S P .sub ti (.int .i64 x) (.int .i64 y)=some (.int .i64 z):=by
 subst hz;simp[q0S,q7h,wrap_i64 h0 h1]
theorem z2Y {ti:TypeId} {k:IntKind} {x y:Int}:q0S P .eql ti (.int k x) (.int k y)=some (.bool (decide (x=y))):=by simp[q0S,q7h];rfl
theorem j1p {ti:TypeId} {k:IntKind} {x y:Int}:q0S P .gtr ti (.int k x) (.int k y)=some (.bool (decide (y<x))):=by simp[q0S,q7h]
theorem q9o {a:AA} {s l c n j:Nat} {ex:Bool} {x:AV} {m m':Mem} {cs ds:List AV} (hx:s=sz\/ex=true) (hsrc:q3V sz x m=some (n,cs)) (hj:min n l=j) (h0:0<j) (hd:cs.take (j*sz)=ds) (h1:ds.all AV.one=true) (hst:q1t m a ds=some m') :
  q1H sz (.sl (some a) s l c ex) x m=some (.int .i64 j,m'):=by
 subst hj hd;unfold q1H;simp only[hsrc];rw[if_neg (by omega)];simp[hx,h1,hst]
theorem z6B {m:Mem} {a:AA} {cs vs:List AV} (h:m.get a.b=some (.cells cs false)) (hl:a.o+vs.length<=cs.length):q1t m a vs=some (m.put a.b (some (.cells (cs.take a.o++vs++cs.drop (a.o+vs.length)) false))):=by
 simp[q1t,h,hl]
end ops
noncomputable def q9Y (P:Program) (st ti sz w:Nat) (ov rot:AV->AV->Mem->R) (a0 a1 a2:AV) (m:Mem):R:=
 Option.bind (q0s P st a0 (some a1) none) fun _=>
 Option.bind (q2X P st a2) fun x1=>
 Option.bind (q0S P .eql ti x1 (.int .i64 0)) fun x2=>
 q0a x2 (some (a0,m)) (
  Option.bind (q2X P st a0) fun y0=>
  Option.bind (q0S P .eql ti a1 y0) fun y1=>
  q0a y1 (Option.bind (q0X sz w a0 a2 m) fun r2=>some (r2.1,r2.2)) (
  Option.bind (q0S P .add ti y0 x1) fun z0=>
  Option.bind (z8K P st a0) fun z1=>
  Option.bind (q0S P .gtr ti z0 z1) fun z2=>
  q0a z2 (
   Option.bind (q0s P st a0 none (some a1)) fun x3=>
   Option.bind (q0S P .add ti y0 x1) fun x4=>
   Option.bind (q0S P .sub ti x4 a1) fun x5=>
   Option.bind (q2k P st x3 x5 m) fun r6=>
   Option.bind (q0s P st r6.1 (some a1) none) fun x7=>
   Option.bind (q1H sz x7 a2 r6.2) fun r8=>
   Option.bind (q0S P .add ti a1 x1) fun x9=>
   Option.bind (q0s P st r6.1 (some x9) none) fun x10=>
   Option.bind (q0s P st a0 (some a1) none) fun x11=>
   Option.bind (q1H sz x10 x11 r8.2) fun r12=>
   some (r6.1,r12.2)) (
   Option.bind (q0S P .add ti y0 x1) fun u0=>
   Option.bind (q0s P st a0 none (some u0)) fun u1=>
   Option.bind (q0S P .add ti a1 x1) fun u2=>
   Option.bind (q0s P st u1 (some u2) none) fun u3=>
   Option.bind (ov a2 u3 m) fun r4=>
   Option.bind (unA .not r4.1) fun u5=>
   q0a u5 (
   Option.bind (q0S P .add ti a1 x1) fun u6=>
   Option.bind (q0s P st u1 (some u6) none) fun u7=>
   Option.bind (q0s P st u1 (some a1) none) fun u8=>
   Option.bind (q1H sz u7 u8 r4.2) fun r9=>
   Option.bind (q0s P st u1 (some a1) none) fun u10=>
   Option.bind (q1H sz u10 a2 r9.2) fun r11=>
   some (u1,r11.2)) (
   Option.bind (q0s P st u1 (some y0) none) fun v0=>
   Option.bind (q1H sz v0 a2 r4.2) fun s1=>
   Option.bind (q0s P st u1 (some a1) none) fun v2=>
   Option.bind (rot v2 x1 s1.2) fun s3=>
   some (u1,s3.2)))))
theorem q82 {sz:Nat} {a:AA} {s l c:Nat} {ex:Bool} {m:Mem} {cs:List AV} {ro:Bool} (hx:s=sz\/ex=true) (h:m.get a.b=some (.cells cs ro)) (hl:a.o+l*sz<=cs.length) :
  q3V sz (.sl (some a) s l c ex) m=some (l,(cs.drop a.o).take (l*sz)):=by
 have hld:q0G m a (l*sz)=some ((cs.drop a.o).take (l*sz)):=by simp[q0G,h,hl]
 unfold q3V;split
 ·simp_all
 ·rename_i a' s' l' c' ex' e;cases e;simp[hx,hld]
 ·simp_all
 ·rename_i h1 h2 h3;exact absurd rfl (h2 a s l c ex)
theorem z2m {sz k:Nat} {a:AA} {s l c:Nat} {ex:Bool} {m:Mem} {new:List AV} (h:q3V sz (.sl (some a) s l c ex) m=some (k,new)):new.length=k*sz:=by
 have hk:=z6z h;subst hk;unfold q3V at h;simp only at h;split at h
 ·obtain⟨cs,h1,e⟩:=xoe.1 h;cases e;obtain⟨ds,ro,_,h2,rfl⟩:=q1Z h1;simp;omega
 ·cases h
theorem q5I {E:Env} {f st ti sz w e:Nat} {ov rot:AV->AV->Mem->R} {zs:List AV} (ht:E.P.underlying st=some (.slice e)) (hs:szT E.P e=some sz) (hw:q4Q E.P e=some w) (hz:q3M E.P e=some zs)
  (hov:∀(v s:AV) (m:Mem),ov v s m=q0R [v,s] m) (heq:∀a0 a1 a2 m,run E (.fn f) [a0,a1,a2] m=q9Y E.P st ti sz w ov rot a0 a1 a2 m):q4W E f st sz w zs where
 fin:=by
  intro s x n k new sa sz0 len cap ex xa sx cx exx m r hsE hxE hsrc hk hn1 hcase happ;subst hsE hxE;rw[heq];unfold q9Y;have e0:∃y,q0s E.P st (.sl sa sz0 len cap ex) (some (.int .i64 len)) none=some y:=by
   rcases hcase with ⟨a,rfl,hx⟩|⟨rfl,rfl,rfl⟩
   ·exact⟨_,q3J ht hs (hx.imp Eq.symm id) (xnr _)⟩
   ·exact⟨_,by simpa using z2l (s:=sz0) (ex:=ex) (k:=.i64) ht hs⟩
  obtain⟨y,e0⟩:=e0;simp only[e0,Option.bind_some,z1N ht,z2Y,df (show ¬(k:Int)=0 by omega),q0a,decide_true,happ]
 room:=by
  intro a len cap i k xa sx cx exx cs old new m ha hfit hold hone hx hne hsrc hn1 hk hsz hw0 hzs hil hby hroom;have hb:len+k<=140737488355328:=xnt0 (Nat.le_mul_of_pos_right _ hw0) hby
  have hnl:=z2m hsrc;have hmul:∀x y:Nat,x<=y->x*sz<=y*sz:=fun x y h=>Nat.mul_le_mul_right _ h
  have hlc:=hmul len cap (by omega);have hlk:=hmul (len+k) cap hroom;have hil2:=hmul i len (by omega);have hadd:∀x y:Nat,(x+y)*sz=x*sz+y*sz:=fun x y=>Nat.add_mul _ _ _
  have hsub:(len-i)*sz=len*sz-i*sz:=Nat.mul_sub_right_distrib _ _ _;have hik:=hadd i k;have hlks:=hadd len k;have hol:old.length=len*sz:=by rw[<-hold,xlt0,xld0];omega
  have hiksz:0<k*sz:=Nat.mul_pos hk hsz;rw[heq];unfold q9Y;have e1:=q3J (a:=a) (s:=sz) (c:=cap) (ex:=true) (k:=.i64) ht hs (.inl rfl) (show i<=len by omega);have e2:=z6y (a:=a) (s:=sz) (l:=len) (ex:=true) (k:=.i64) ht hs (.inl rfl) hroom;have e3:=q3J (a:=a) (s:=sz) (c:=cap) (ex:=true) (k:=.i64) ht hs (.inl rfl) (show i+k<=len+k by omega);have e4:=q3J (a:=a) (s:=sz) (c:=cap) (ex:=true) (k:=.i64) ht hs (.inl rfl) (show i<=len+k by omega)
  have a1:q0S E.P .add ti (.int .i64 (len:Int)) (.int .i64 (k:Int))=some (.int .i64 ((len+k:Nat):Int)):=q9b (by simp) (by omega) (by omega);have a2:q0S E.P .add ti (.int .i64 (i:Int)) (.int .i64 (k:Int))=some (.int .i64 ((i+k:Nat):Int)):=q9b (by simp) (by omega) (by omega);obtain⟨ds,hx⟩:=hx;have hcne:cs≠[]:=by rintro rfl;simp at hfit;omega
  have hovr:ov (.sl (some xa) sx k cx exx) (.sl (some ⟨a.b,a.o+(i+k)*sz⟩) sz (len+k-(i+k)) (cap-(i+k)) true) m=some (.bool false,m):=by
   rw[hov];obtain⟨c0,cs0,rfl⟩:=List.exists_cons_of_ne_nil hcne;simp only[q0R,if_neg hne,hx,ha]
  have hsr1:=q82 (a:=⟨a.b,a.o+i*sz⟩) (s:=sz) (l:=len+k-i) (c:=cap-i) (ex:=true) (.inl rfl) ha (by
   have:=hadd i (len+k-i);rw[show i+(len+k-i)=len+k by omega]at this;simp only;omega)
  have hmove:((cs.drop (a.o+i*sz)).take ((len+k-i)*sz)).take ((len-i)*sz)=old.drop (i*sz):=by
   rw[List.take_take,Nat.min_eq_left (hmul _ _ (by omega)),<-hold,List.drop_take,List.drop_drop,hsub]
  have hst1:=z6B (a:=⟨a.b,a.o+(i+k)*sz⟩) (vs:=old.drop (i*sz)) ha (by simp only[xld0,hol];omega);have hc1:=q9o (a:=⟨a.b,a.o+(i+k)*sz⟩) (s:=sz) (l:=len+k-(i+k)) (c:=cap-(i+k)) (ex:=true) (.inl rfl) hsr1 (j:=len-i) (by omega) (by omega) hmove (by
   rw[List.all_eq_true]at hone⊢;exact fun v hv=>hone v (List.mem_of_mem_drop hv)) hst1
  generalize hm1:m.put a.b (some (.cells (cs.take (a.o+(i+k)*sz)++old.drop (i*sz)++cs.drop (a.o+(i+k)*sz+(old.drop (i*sz)).length)) false))=m1 at hc1;generalize hcs1:cs.take (a.o+(i+k)*sz)++old.drop (i*sz)++cs.drop (a.o+(i+k)*sz+(old.drop (i*sz)).length)=cs1 at hm1;have hal:=Mem.q0x ha;have ha1:m1.get a.b=some (.cells cs1 false):=by rw[<-hm1,Mem.get_put,if_pos ⟨rfl,hal⟩]
  have hl1:cs1.length=cs.length:=by rw[<-hcs1];simp only[xla0,xlt0,xld0,hol];omega
  have hsr2:q3V sz (.sl (some xa) sx k cx exx) m1=some (k,new):=by rw[<-hm1,z6A hne];exact hsrc
  have hst2:=z6B (a:=⟨a.b,a.o+i*sz⟩) (vs:=new) ha1 (by simp only[hnl,hl1];omega);have hc2:=q9o (a:=⟨a.b,a.o+i*sz⟩) (s:=sz) (l:=len+k-i) (c:=cap-i) (ex:=true) (.inl rfl) hsr2 (j:=k) (by omega) hk (xtl (by omega)) hn1 hst2;simp only[e1,Option.bind_some,z1N ht,j6Y ht,z2Y,j1p,df (show ¬(k:Int)=0 by omega),df (show ¬(i:Int)=(len:Int) by omega),q0a,a1,a2,df (show ¬(cap:Int)<((len+k:Nat):Int) by omega),e2,e3,e4,hovr,unA,xbf,hc1,hc2]
  refine⟨_,rfl,by rw[<-hm1];rfl,fun b hb=>?_,?_⟩
  ·rw[Mem.get_put,if_neg (fun h=>hb h.1),<-hm1,Mem.get_put,if_neg (fun h=>hb h.1)]
  ·rw[Mem.get_put,if_pos ⟨rfl,by rw[<-hm1];exact hal⟩];congr 2;have p1:cs1.take (a.o+i*sz)=cs.take (a.o+i*sz):=by
    rw[<-hcs1,List.append_assoc,List.take_append_of_le_length (by simp;omega),List.take_take,Nat.min_eq_left (by omega)]
   have p2:cs1.drop (a.o+i*sz+new.length)=old.drop (i*sz)++cs.drop (a.o+(len+k)*sz):=by
    rw[<-hcs1,hnl,List.append_assoc,List.drop_append];have hlen:(cs.take (a.o+(i+k)*sz)).length=a.o+(i+k)*sz:=by simp;omega
    rw[List.drop_eq_nil_of_le (by rw[hlen];omega),List.nil_append,hlen,show a.o+i*sz+k*sz-(a.o+(i+k)*sz)=0 by omega,List.drop_zero];congr 2;simp only[xld0,hol];omega
   rw[p1,p2];simp only[List.append_assoc]
 grow:=by
  intro a len cap i k xa sx cx exx cs old new m ha hfit hold hone hx hne hsrc hn1 hk hsz hw0 hzs hil hby hlcap hroom;have hb:len+k<=140737488355328:=xnt0 (Nat.le_mul_of_pos_right _ hw0) hby
  have hnl:=z2m hsrc;have hmul:∀x y:Nat,x<=y->x*sz<=y*sz:=fun x y h=>Nat.mul_le_mul_right _ h
  have hlc:=hmul len cap (by omega);have hil2:=hmul i len (by omega);have hadd:∀x y:Nat,(x+y)*sz=x*sz+y*sz:=fun x y=>Nat.add_mul _ _ _
  have hik:=hadd i k;have hlks:=hadd len k;have hsub:(len-i)*sz=len*sz-i*sz:=Nat.mul_sub_right_distrib _ _ _;have hsub2:(len+k-i)*sz=(len+k)*sz-i*sz:=Nat.mul_sub_right_distrib _ _ _;have hol:old.length=len*sz:=by rw[<-hold,xlt0,xld0];omega
  have hiksz:0<k*sz:=Nat.mul_pos hk hsz;rw[heq];unfold q9Y;have e1:=q3J (a:=a) (s:=sz) (c:=cap) (ex:=true) (k:=.i64) ht hs (.inl rfl) (show i<=len by omega);have e2:=z6y (a:=a) (s:=sz) (l:=len) (ex:=true) (k:=.i64) ht hs (.inl rfl) (show i<=cap by omega);have a1:q0S E.P .add ti (.int .i64 (len:Int)) (.int .i64 (k:Int))=some (.int .i64 ((len+k:Nat):Int)):=q9b (by simp) (by omega) (by omega)
  have a2:q0S E.P .add ti (.int .i64 (i:Int)) (.int .i64 (k:Int))=some (.int .i64 ((i+k:Nat):Int)):=q9b (by simp) (by omega) (by omega);have a3:q0S E.P .sub ti (.int .i64 ((len+k:Nat):Int)) (.int .i64 (i:Int))=some (.int .i64 ((len+k-i:Nat):Int)):=a3I (by omega) (by omega) (by omega);have hal:=Mem.q0x ha;have hold2:(cs.drop a.o).take (i*sz)=old.take (i*sz):=by rw[<-hold,List.take_take,Nat.min_eq_left hil2]
  have hz1:q2k E.P st (.sl (some a) sz i cap true) (.int .i64 ((len+k-i:Nat):Int)) m=some (.sl (some ⟨m.next,0⟩) sz (len+k) (len+k) false,m.alloc (old.take (i*sz)++(List.replicate (len+k-i) zs).flatten)):=by
   simp only[q2k,ht,hz,hs,hw,Option.bind_some,Int.toNat_natCast];rw[if_pos ⟨by omega,hzs,hsz,hw0,by omega,by omega,by omega,by rw[show i+(len+k-i)=len+k by omega];exact hby⟩];simp only[q0G,ha];rw[if_pos (by omega),hold2];simp only[xom];rw[show i+(len+k-i)=len+k by omega]
  generalize hrow:old.take (i*sz)++(List.replicate (len+k-i) zs).flatten=row at hz1;have hto:(old.take (i*sz)).length=i*sz:=by rw[xlt0];omega
  have hrl:row.length=(len+k)*sz:=by rw[<-hrow];simp only[xla0,List.length_flatten,List.map_replicate,List.sum_replicate_nat,hzs,hto];omega
  have hr0:(m.alloc row).get m.next=some (.cells row false):=by rw[Mem.q2V,if_pos rfl]
  have e5:=q3J (a:=⟨m.next,0⟩) (s:=sz) (c:=len+k) (ex:=false) (k:=.i64) ht hs (.inl rfl) (show i<=len+k by omega)
  have e6:=q3J (a:=⟨m.next,0⟩) (s:=sz) (c:=len+k) (ex:=false) (k:=.i64) ht hs (.inl rfl) (show i+k<=len+k by omega)
  simp only[xnz]at e5 e6;obtain⟨ds,hx⟩:=hx;have hxl:=Mem.q0x hx;have hsr1:q3V sz (.sl (some xa) sx k cx exx) (m.alloc row)=some (k,new):=by
   rw[<-hsrc];unfold q3V q0G;simp only[Mem.q2V,if_neg (show ¬xa.b=m.next by omega)]
  have hst1:=z6B (a:=⟨m.next,i*sz⟩) (vs:=new) hr0 (by simp only[hnl,hrl];omega)
  have hc1:=q9o (a:=⟨m.next,i*sz⟩) (s:=sz) (l:=len+k-i) (c:=len+k-i) (ex:=false) (.inl rfl) hsr1 (j:=k) (by omega) hk (xtl (by omega)) hn1 hst1
  generalize hcs1:row.take (i*sz)++new++row.drop (i*sz+new.length)=row1 at hc1;generalize hm1:(m.alloc row).put m.next (some (.cells row1 false))=m1 at hc1
  have hm1n:m1.next=m.next+1:=by rw[<-hm1];rfl
  have hr1:m1.get m.next=some (.cells row1 false):=by rw[<-hm1,Mem.get_put,if_pos ⟨rfl,by simp⟩]
  have hoth:∀b,b≠m.next->m1.get b=m.get b:=fun b hb=>by rw[<-hm1,Mem.get_put,if_neg (fun h=>hb h.1),Mem.q2V,if_neg hb]
  have ha1:m1.get a.b=some (.cells cs false):=by rw[hoth _ (by omega)];exact ha
  have hl1:row1.length=(len+k)*sz:=by rw[<-hcs1];simp only[xla0,xlt0,xld0,hrl,hnl];omega
  have hsr2:=q82 (a:=⟨a.b,a.o+i*sz⟩) (s:=sz) (l:=len-i) (c:=cap-i) (ex:=true) (.inl rfl) ha1 (by simp only[hsub];omega);have hmove:((cs.drop (a.o+i*sz)).take ((len-i)*sz)).take ((len-i)*sz)=old.drop (i*sz):=by
   rw[List.take_take,Nat.min_self,<-hold,List.drop_take,List.drop_drop,hsub]
  have hst2:=z6B (a:=⟨m.next,(i+k)*sz⟩) (vs:=old.drop (i*sz)) hr1 (by simp only[xld0,hol,hl1];omega)
  have hc2:=q9o (a:=⟨m.next,(i+k)*sz⟩) (s:=sz) (l:=len+k-(i+k)) (c:=len+k-(i+k)) (ex:=false) (.inl rfl) hsr2 (j:=len-i) (by omega) (by omega) hmove (by
   rw[List.all_eq_true]at hone⊢;exact fun v hv=>hone v (List.mem_of_mem_drop hv)) hst2
  simp only[e1,Option.bind_some,z1N ht,j6Y ht,z2Y,j1p,df (show ¬(k:Int)=0 by omega),df (show ¬(i:Int)=(len:Int) by omega),q0a,a1,a2,a3,dt (show (cap:Int)<((len+k:Nat):Int) by omega),e2,hz1,e5,e6,hc1,hc2];refine⟨_,rfl,by simp[hm1n],fun b hb=>?_,?_⟩
  ·rw[Mem.get_put,if_neg (fun h=>hb h.1)];exact hoth b hb
  ·rw[Mem.get_put,if_pos ⟨rfl,by omega⟩];congr 2;have hri:row.take (i*sz)=old.take (i*sz):=by rw[<-hrow,List.take_append_of_le_length (by omega),List.take_take,Nat.min_self]
   have p1:row1.take ((i+k)*sz)=old.take (i*sz)++new:=by
    rw[<-hcs1,hri,List.take_append_of_le_length (by simp only[xla0,hto,hnl];omega),xtl (by simp only[xla0,hto,hnl];omega)]
   have p3:row1.drop ((i+k)*sz+(old.drop (i*sz)).length)=[]:=List.drop_eq_nil_of_le (by simp only[xld0,hol,hl1];omega);rw[p1,p3,List.append_nil]
end
end Go.Abs
namespace Go.Proofs.YtlginbmjiecglaaGreatDoor
section
open Go Go.Abs
set_option maxRecDepth 4000
theorem a9X:q4W E0 83 140 1 16 ((q3M Tryz.prog 9).getD []):=
 q5I (E:=E0) (ti:=3) (e:=9) (ov:=fun v s m=>run E0 (.fn 120) [v,s] m) (rot:=fun v k m=>run E0 (.fn 121) [v,k] m) (by kernel_rfl) (by kernel_rfl) (by kernel_rfl) (by kernel_rfl)
  (fun v s m=>q08 (E:=E0) (h:=q0R) rfl [v,s] m) (fun a0 a1 a2 m=>by
   simp only[a5r,j5g,j5h,j5i,j5j];rfl)
theorem a9Y:q4W E0 84 23 4 40 ((q3M Tryz.prog 56).getD []):=
 q5I (E:=E0) (ti:=3) (e:=56) (ov:=fun v s m=>run E0 (.fn 122) [v,s] m) (rot:=fun v k m=>run E0 (.fn 123) [v,k] m) (by kernel_rfl) (by kernel_rfl) (by kernel_rfl) (by kernel_rfl)
  (fun v s m=>q08 (E:=E0) (h:=q0R) rfl [v,s] m) (fun a0 a1 a2 m=>by
   simp only[a5s,j5k,j5l,j5m,j5n];rfl)
theorem a9Z:q4W E0 85 24 9 88 ((q3M Tryz.prog 74).getD []):=
 q5I (E:=E0) (ti:=3) (e:=74) (ov:=fun v s m=>run E0 (.fn 124) [v,s] m) (rot:=fun v k m=>run E0 (.fn 125) [v,k] m) (by kernel_rfl) (by kernel_rfl) (by kernel_rfl) (by kernel_rfl)
  (fun v s m=>q08 (E:=E0) (h:=q0R) rfl [v,s] m) (fun a0 a1 a2 m=>by
   simp only[a5t,j5o,j5p,j5q,j5r];rfl)
theorem a90:q4W E0 87 149 1 8 ((q3M Tryz.prog 26).getD []):=
 q5I (E:=E0) (ti:=3) (e:=26) (ov:=fun v s m=>run E0 (.fn 128) [v,s] m) (rot:=fun v k m=>run E0 (.fn 129) [v,k] m) (by kernel_rfl) (by kernel_rfl) (by kernel_rfl) (by kernel_rfl)
  (fun v s m=>q08 (E:=E0) (h:=q0R) rfl [v,s] m) (fun a0 a1 a2 m=>by
   simp only[a5v,j5v,j5w,j5x,j5y];rfl)
theorem a92:q4W E0 88 25 4 40 ((q3M Tryz.prog 54).getD []):=
 q5I (E:=E0) (ti:=3) (e:=54) (ov:=fun v s m=>run E0 (.fn 130) [v,s] m) (rot:=fun v k m=>run E0 (.fn 131) [v,k] m) (by kernel_rfl) (by kernel_rfl) (by kernel_rfl) (by kernel_rfl)
  (fun v s m=>q08 (E:=E0) (h:=q0R) rfl [v,s] m) (fun a0 a1 a2 m=>by
   simp only[a5w,j5z,j5A,j5B,j5C];rfl)
end
section
open Go Go.Abs
set_option maxRecDepth 4000
noncomputable def H (f:FuncId):Option (List AV->Mem->R):=
 match f with
 | 59=>some q4O
 | 60=>some q8h
 | 120=>some q0R
 | 122=>some q0R
 | 124=>some q0R
 | 128=>some q0R
 | 130=>some q0R
 | 83=>some (q8p Tryz.prog 140)
 | 84=>some (q8p Tryz.prog 23)
 | 85=>some (q8p Tryz.prog 24)
 | 87=>some (q8p Tryz.prog 149)
 | 88=>some (q8p Tryz.prog 25)
 | _=>none
noncomputable def E:Env:=z7b Tryz.prog hints H
theorem b1O:q1u E:=q9r (by kernel_rfl) 196 (fun f h=>by
  unfold hints;rw[List.getElem?_eq_none (by show 196<=f;exact h)];rfl) (fun f h=>List.all_eq_true.1 looks f (List.mem_range.2 h)) (fun f h e=>by
  unfold H at e;split at e
  ·have e1:=xsj e;subst e1;exact q9a (P:=Tryz.prog) (fn:=Tryz.f59) Tryz.func59 (by kernel_rfl) (by kernel_rfl) (by kernel_rfl) (by kernel_rfl)
  ·have e1:=xsj e;subst e1;exact z0u (P:=Tryz.prog) (fn:=Tryz.f60) Tryz.func60 (by kernel_rfl) (by kernel_rfl) (by kernel_rfl) (by kernel_rfl)
  ·have e1:=xsj e;subst e1;exact q02 (P:=Tryz.prog) (fn:=Tryz.f120) (st:=140) (tr:=4) (e:=9) (sz:=1) Tryz.func120 (by kernel_rfl) (by kernel_rfl) (by kernel_rfl) (by kernel_rfl) (by kernel_rfl) (by kernel_rfl)
  ·have e1:=xsj e;subst e1;exact q02 (P:=Tryz.prog) (fn:=Tryz.f122) (st:=23) (tr:=4) (e:=56) (sz:=4) Tryz.func122 (by kernel_rfl) (by kernel_rfl) (by kernel_rfl) (by kernel_rfl) (by kernel_rfl) (by kernel_rfl)
  ·have e1:=xsj e;subst e1;exact q02 (P:=Tryz.prog) (fn:=Tryz.f124) (st:=24) (tr:=4) (e:=74) (sz:=9) Tryz.func124 (by kernel_rfl) (by kernel_rfl) (by kernel_rfl) (by kernel_rfl) (by kernel_rfl) (by kernel_rfl)
  ·have e1:=xsj e;subst e1;exact q02 (P:=Tryz.prog) (fn:=Tryz.f128) (st:=149) (tr:=4) (e:=26) (sz:=1) Tryz.func128 (by kernel_rfl) (by kernel_rfl) (by kernel_rfl) (by kernel_rfl) (by kernel_rfl) (by kernel_rfl)
  ·have e1:=xsj e;subst e1;exact q02 (P:=Tryz.prog) (fn:=Tryz.f130) (st:=25) (tr:=4) (e:=54) (sz:=4) Tryz.func130 (by kernel_rfl) (by kernel_rfl) (by kernel_rfl) (by kernel_rfl) (by kernel_rfl) (by kernel_rfl)
  ·have e1:=xsj e;subst e1;exact q1S (E:=E0) q8q (st:=140) (e:=9) (by kernel_rfl) (by kernel_rfl) (by kernel_rfl) (by kernel_rfl) ⟨Tryz.f83,Tryz.func83,by kernel_rfl,by decide +kernel⟩ a9X
  ·have e1:=xsj e;subst e1;exact q1S (E:=E0) q8q (st:=23) (e:=56) (by kernel_rfl) (by kernel_rfl) (by kernel_rfl) (by kernel_rfl) ⟨Tryz.f84,Tryz.func84,by kernel_rfl,by decide +kernel⟩ a9Y
  ·have e1:=xsj e;subst e1;exact q1S (E:=E0) q8q (st:=24) (e:=74) (by kernel_rfl) (by kernel_rfl) (by kernel_rfl) (by kernel_rfl) ⟨Tryz.f85,Tryz.func85,by kernel_rfl,by decide +kernel⟩ a9Z
  ·have e1:=xsj e;subst e1;exact q1S (E:=E0) q8q (st:=149) (e:=26) (by kernel_rfl) (by kernel_rfl) (by kernel_rfl) (by kernel_rfl) ⟨Tryz.f87,Tryz.func87,by kernel_rfl,by decide +kernel⟩ a90
  ·have e1:=xsj e;subst e1;exact q1S (E:=E0) q8q (st:=25) (e:=54) (by kernel_rfl) (by kernel_rfl) (by kernel_rfl) (by kernel_rfl) ⟨Tryz.f88,Tryz.func88,by kernel_rfl,by decide +kernel⟩ a92
  ·cases e)
end
end Go.Proofs.YtlginbmjiecglaaGreatDoor
