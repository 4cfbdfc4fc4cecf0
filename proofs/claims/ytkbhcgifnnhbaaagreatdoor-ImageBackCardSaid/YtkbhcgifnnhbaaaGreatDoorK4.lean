/- Texts of one claim, put together. -/
import Derived.Test.YtkbhcgifnnhbaaaGreatDoorK3
import Derived.Deep.AppendSrc
import Derived.Lib.AppendZerosOnto
import Derived.Laws.MakeOwn
import Derived.RangeFuncIn
namespace Go.Abs
open Go
section
section
variable {P:Program} {p:Phi} {m:Mem} {w:World}
theorem z3g {st xt:TypeId} {nw:Nat×Nat} (h:q4V P st xt=some nw):∃e i z,P.underlying st=some (.slice e)/\P.info? e=some i/\i.zero=some z/\nw=(i.size,i.bytes)/\z.cells.size=i.size/\0<i.bytes/\
  ((∃e',P.underlying xt=some (.slice e'))\/P.underlying xt=some .string):=by
 unfold q4V at h;split at h
 ·rename_i e he;split at h
  ·rename_i i hk hi;split at h
   ·rename_i z hz;split at h
    ·rename_i hzz;cases h;refine⟨e,i,z,he,hi,hz,rfl,hzz.1,hzz.2,?_⟩;cases hd:P.underlying xt with
     |none=>simp[hd]at hk
     |some d=>cases d<;>simp[hd]at hk<;>simp
    ·simp at h
   ·simp at h
  ·simp at h
 ·simp at h
theorem b49 (hm:MR P p m w) {xt:TypeId} (hk:(∃e',P.underlying xt=some (.slice e'))\/P.underlying xt=some .string) {sz:Nat} {x:AV} {x':Value} (hx:VR p x x') {n:Nat} {vs:List AV}
  (h:q5Q sz x m=some (n,vs)) (h1:vs.all AV.one=true):∃news,Src P sz xt x' n news w/\VRs p vs news:=by
 obtain⟨a1,a2,vs',a3,a4⟩:=z08 (P:=P) hm hx h;have hl:=a3.length;have b1:=a4 n (xnr n) w rfl;have b2:=a4 n (xnr n) w.drew rfl;rw[xtl (by omega)]at b1 b2;exact⟨vs',⟨hk,a1,b1,b2,by omega,a3.ones h1⟩,a3⟩
theorem z1j (hm:MR P p m w) (hG:P.globals.size<=m.next) {st xt ty:TypeId} {nw:Nat×Nat} (hel:q4V P st xt=some nw) {s x:AV} {s' x':Value} (hs:VR p s s') (hx:VR p x x') {v:AV} {m':Mem}
  (hfree:q7g p m.next m'.next) (h:q0H nw.1 nw.2 s x m=some (v,m')) :
  ∃cv w' p',(Builtin.append_ #[st,xt] ty #[s',x']).run P w=.ok cv w'/\VR p' v cv/\Sim P p m w p' m' w':=by
 obtain⟨e,i,z,hst,hi,hz,rfl,hzs,hb0,hk⟩:=z3g hel;unfold q0H at h;split at h
 ·simp at h
 rename_i n new hsrc;split at h
 ·simp at h
 rename_i hone;have hone:new.all AV.one=true:=by simpa using hone
 obtain⟨news,hS,hnews⟩:=b49 (P:=P) hm hk hx hsrc hone;have hlen:=hnews.length;have hnl:=hS.newsLen;simp only at h hsrc hS hnl;have grow:∀{base:Option Addr} {len cap':Nat} {olds:List Value} {old:List AV},(Builtin.firstCells i.size len (.slice base len cap')).run P w.drew=.ok olds.toArray w.drew->VRs p old olds->
   olds.length=len*i.size->cap'<len+n->(len+n)*i.bytes<=q0j->∀{m1:Mem},MR P p m1 w->P.globals.size<=m1.next->p m1.next=none->
   ∃cv w' p',(Builtin.append_ #[st,xt] ty #[.slice base len cap',x']).run P w=.ok cv w'/\
    VR p' (.sl (some ⟨m1.next,0⟩) i.size (len+n) (len+n) false) cv/\Sim P p m1 w p' (m1.alloc (old++new)) w':=by
  intro base len cap' olds old hold hro hol hcap hby m1 hm1 hG1 hf1;have hle:len+n<=(len+n)*i.bytes:=xEo _ hb0;unfold q0j at hby
  have hfit:=growslice_fits (need:=len+n) (old:=cap') (bytes:=i.bytes) hcap (by omega);have hrun:=run_append_grow_src (P:=P) w st xt ty e i z hst hi hz base len cap' olds hold x' n news hS hcap (by omega) hfit;refine⟨_,_,_,hrun,?_,Sim.alloc (el:=e) (fr:=(0,0)) (arr:=(olds++news).toArray++Builtin.zeroCells z.cells (grownCap w (len+n) cap' e-(len+n))) hm1 hG1 hf1 rfl rfl rfl rfl (by simp) ?_⟩
  ·simp only[VR,SR];refine⟨⟨w.heap.size,0,_,none⟩,0,grownCap w (len+n) cap' e,by rw[xAb xFn],rfl,xnr _,grownCap_ge w _ _ e,by simp,fun _=>?_,fun _=>by simp⟩
   have hge:=grownCap_ge w (len+n) cap' e;simp only[Array.size_append,xDr,xla0,hol,hnl,size_zeroCells,hzs,xnz];rw[<-xCs,<-xCs];apply xAo;omega
  ·intro j a hj;obtain⟨v,h1,h2⟩:=(hro.append hnews).get hj;refine⟨v,?_,h2⟩;rw[Array.getElem?_append_left]
   ·simpa using h1
   ·have:=(xgi.1 h1).1;simpa using this
 split at h
 ·
  rename_i ex;simp only[VR]at hs;obtain⟨_,_,aa,rfl,haa⟩:=hs;split at h
  ·rename_i hn0;cases h;subst hn0;have hnil:news=[]:=xBc.1 (by omega);subst hnil;refine⟨.slice aa 0 0,w,p,?_,by simp only[VR];exact⟨xFn,xFn,aa,rfl,haa⟩,Sim.refl hm⟩;cases aa with
   |none=>rcases hk with ⟨e',hk⟩|hk<;>simp[Builtin.append_,run_underlying hst,run_underlying hk,sizeOf,typeInfo,hi,hS.len,hS.cells]
   |some b=>
    have:=run_append_room_src (P:=P) w st xt ty e i hst hi b.block b.off 0 0 x' 0 [] hS (by omega) (by simp) (by simp);rcases hk with ⟨e',hk⟩|hk<;>simp[Builtin.append_,run_underlying hst,run_underlying hk,sizeOf,typeInfo,hi,hS.len,hS.cells,storeCells]
  ·rename_i hn0;split at h
   ·rename_i hby
    cases h;obtain⟨cv,w',p',h1,h2,h3⟩:=grow (base:=aa) (len:=0) (cap':=0) (olds:=[]) (old:=[]) (by cases aa<;>simp[Builtin.firstCells,loadCells,loadCellsFrom]) (by simp[VRs]) (by simp) (by omega) (by simpa using hby) hm hG
     (hfree _ (xnr _) (by simp))
    refine⟨cv,w',p',h1,?_,by simpa using h3⟩;simpa using h2
   ·simp at h
 ·rename_i a s' len cap ex;split at h
  ·rename_i hss
   have hszf:ex=false->s'=i.size:=fun h=>by rcases hss with e|e;· exact e
                                            ·rw[h]at e;cases e
   simp only[VR,SR]at hs;obtain⟨ci,off,cap',hci,rfl,hlc,hcc,hex,hbd0,hoff⟩:=hs;have hbd:ex=false->off+cap'*i.size<=ci.n:=fun h=>by rw[<-hszf h];exact hbd0 h
   split at h
   ·
    rename_i hroom;obtain⟨m1,hst1,e1⟩:=xoe.1 h;cases e1;obtain⟨cs,hc,hle,_⟩:=q2p hst1;obtain⟨arr,el,fr,q1,q2,q3,q4⟩:=hm.live a.b cs false ci hc hci;have q3:=q3 rfl;by_cases h0:n=0
    ·subst h0;have hnil:news=[]:=xBc.1 (by omega);subst hnil;have hnil2:new=[]:=xBc.1 (by simpa using hlen.symm);subst hnil2;obtain⟨w',h4,h5⟩:=q2G (P:=P) hm (a:=⟨a.b,a.o+len*i.size⟩) (vs':=[]) hci (by simp[VRs]) rfl hst1;simp only[storeCells,Sem.run_pure]at h4;cases h4;refine⟨_,w,p,run_append_room_src (P:=P) w st xt ty e i hst hi ci.c off len cap' x' 0 [] hS (by omega) (by simp) (by simp),?_,?_⟩
     ·simp only[VR,SR];exact⟨ci,off,cap',hci,rfl,by omega,hcc,hex,hbd,hoff⟩
     ·exact h5
    ·have hoff':off=a.o+ci.d:=hoff (by omega);subst hoff';obtain⟨w',h4,h5⟩:=q2G (P:=P) hm (a:=⟨a.b,a.o+len*i.size⟩) hci hnews hone hst1;have hfit:a.o+ci.d+len*i.size+news.length<=arr.size\/news.length=0:=by
      by_cases hz0:news.length=0
      ·exact .inr hz0
      ·left;have hlast:0<cs.length:=by simp only at hle;omega
       obtain⟨v,hv',_⟩:=q4 (cs.length-1) (cs[cs.length-1]'(by omega)) (xgq (by omega));have:=(xBb.1 hv').1;simp only at hle;omega
     have hr:=run_append_room_src (P:=P) w st xt ty e i hst hi ci.c (a.o+ci.d) len cap' x' n news hS (by omega)
      (fun j hj=>by rw[q3D q1];rcases hfit with hf|hf<;>simp<;>omega)
      (fun j hj=>by
       simp only[World.frozen?,q1];rcases hfit with hf|hf
       ·have:=q3 (a.o+ci.d+len*i.size+j);simpa using this
       ·omega)
     have hw':w'=w.setCells ci.c (a.o+ci.d+len*i.size) news:=by
      by_cases hz0:news.length=0
      ·have:news=[]:=xBc.1 hz0;subst this;simp only[storeCells,Sem.run_pure]at h4;cases h4;rfl
      ·have h6:=q54 (P:=P) (off:=a.o+ci.d+len*i.size) (vs:=news) q1 (by rcases hfit with hf|hf<;>omega) q3 hS.one
       simp only[show a.o+len*i.size+ci.d=a.o+ci.d+len*i.size by omega]at h4;rw[h6]at h4;cases h4;rfl
     subst hw';refine⟨_,_,p,hr,?_,h5⟩;simp only[VR,SR];exact⟨ci,a.o+ci.d,cap',hci,rfl,by omega,hcc,hex,hbd,fun _=>rfl⟩
   ·rename_i hroom;split at h
    ·rename_i hby
     split at h
     ·rename_i old hold;obtain⟨cs,ro,hc,hle,hold'⟩:=q2m hold;obtain⟨olds,o1,o2,o3,o4⟩:=q2u (P:=P) hm hci hold;have hol:=o2.length;have hfirst:(Builtin.firstCells i.size len (.slice (some ⟨ci.c,off,none⟩) len cap')).run P w.drew=.ok olds.toArray w.drew:=by
       by_cases hl:len=0
       ·subst hl;have:olds=[]:=xBc.1 (by omega);subst this;simp[Builtin.firstCells,loadCells,loadCellsFrom]
       ·have:off=a.o+ci.d:=hoff (by omega);subst this;simpa[Builtin.firstCells]using o1 w.drew rfl
      cases ex with
      |true=>
       simp only[xAd]at h;cases h;have:=hex rfl;subst this;exact grow hfirst o2 (by omega) (by omega) hby hm hG (hfree _ (xnr _) (by simp))
      |false=>
       simp only[xbq,xAh,hc]at h;cases ro with
       |true=>simp at h
       |false=>
       simp only at h;cases h;have hkill:=Sim.kill hm hc hci;by_cases hcap:cap'<len+n
       ·obtain⟨cv,w',p',h1,h2,h3⟩:=grow hfirst o2 (by omega) hcap hby hkill.rel (by simpa using hG) (by simpa using hfree _ (xnr _) (by simp));exact⟨cv,w',p',h1,h2,hkill.trans h3 (by simpa using hfree)⟩
       ·
        have hoff':off=a.o+ci.d:=hoff (by omega);subst hoff';obtain⟨arr,el,fr,q1,q2,q3,q4⟩:=hm.live a.b cs false ci hc hci;have q3:=q3 rfl;have hfit:a.o+ci.d+len*i.size+news.length<=arr.size:=by
         have:=hbd rfl;have h2:(len+n)*i.size<=cap'*i.size:=xAo _ (by omega);rw[xCs]at h2;omega
        have hr:=run_append_room_src (P:=P) w st xt ty e i hst hi ci.c (a.o+ci.d) len cap' x' n news hS (by omega)
         (fun j hj=>by rw[q3D q1];simp;omega)
         (fun j hj=>by
          simp only[World.frozen?,q1];have:=q3 (a.o+ci.d+len*i.size+j);simpa using this)
        obtain⟨arr',f1,f2,f3,f4,f5,f6,f7,f8⟩:=q4H ci.c news (a.o+ci.d+len*i.size) w q1 hfit;refine⟨_,_,_,hr,?_,Sim.j0m (d:=a.o+ci.d) hm hG hc hci (hfree _ (xnr _) (by simp)) f1 (by omega) q3 ?_ f4 f5 f6 f7 f8⟩
        ·simp only[VR,SR];exact⟨⟨ci.c,a.o+ci.d,ci.n,none⟩,a.o+ci.d,cap',by rw[xAb xFn],rfl,xnr _,by omega,by simp,fun _=>hbd rfl,fun _=>by simp⟩
        ·intro j x hj;rw[List.getElem?_append]at hj;rw[f3];split at hj
         ·rename_i hjl;rw[xAa (by omega)];have hj':=hj;rw[hold',xBw,xAb (by omega),xBu]at hj';obtain⟨v,g1,g2⟩:=q4 _ x hj';exact⟨v,by rw[<-g1];congr 1;omega,g2⟩
         ·rename_i hjl;obtain⟨v,g1,g2⟩:=hnews.get hj;have:=(xgi.1 g1).1;refine⟨v,?_,g2⟩;rw[xAb (by omega),<-g1];congr 1;omega
     ·simp at h
    ·simp at h
  ·simp at h
 ·simp at h
theorem z3h {sz wd:Nat} {s x v:AV} {m':Mem} (h:q0H sz wd s x m=some (v,m')):m.next<=m'.next:=by
 unfold q0H at h;split at h
 ·simp at h
 ·split at h
  ·simp at h
  ·split at h
   ·split at h
    ·cases h;exact xnr _
    ·split at h
     ·cases h;simp
     ·simp at h
   ·split at h
    ·split at h
     ·obtain⟨m1,h5,e⟩:=xoe.1 h;cases e;obtain⟨_,_,_,rfl⟩:=q2p h5;simp
     ·split at h
      ·split at h
       ·split at h
        ·cases h;simp
        ·split at h
         ·cases h;simp
         ·simp at h
       ·simp at h
      ·simp at h
    ·simp at h
   ·simp at h
theorem z3i {st:TypeId} {s x v:AV} {m':Mem} (h:q19 P st s x m=some (v,m')):m.next<=m'.next:=by
 unfold q19 at h;split at h
 ·obtain⟨zs,h1,h⟩:=be h;obtain⟨n,h2,h⟩:=be h;obtain⟨b,h3,h⟩:=be h;split at h
  ·split at h
   ·obtain⟨old,h4,e⟩:=xoe.1 h;cases e;simp
   ·cases h
  ·cases h
 ·cases h
theorem z1k {st xt:TypeId} {s x v:AV} {m':Mem} (h:q3Y P st xt s x m=some (v,m')):m.next<=m'.next:=by
 unfold q3Y at h;split at h
 ·exact z3i h
 ·obtain⟨nw,_,h⟩:=be h;exact z3h h
theorem z1l (hm:MR P p m w) (hG:P.globals.size<=m.next) {st xt ty:TypeId} {k0:IntKind} (hxt:P.underlying xt=some (.int k0)) {s x:AV} {s' x':Value} (hs:VR p s s') (hx:VR p x x') {v:AV} {m':Mem}
  (hfree:q7g p m.next m'.next) (h:q19 P st s x m=some (v,m')) :
  ∃cv w' p',(Builtin.append_ #[st,xt] ty #[s',x']).run P w=.ok cv w'/\VR p' v cv/\Sim P p m w p' m' w':=by
 unfold q19 at h;split at h
 ·rename_i e hst;obtain⟨zs,h1,h⟩:=be h;obtain⟨n,h2,h⟩:=be h;obtain⟨b,h3,h⟩:=be h;split at h
  ·rename_i a sz0 len cap kq k _ _ _;split at h
   ·rename_i hc;obtain⟨c1,c2,c3,c4,c40,c4',c5,c6⟩:=hc;obtain⟨old,h4,e0⟩:=xoe.1 h;cases e0;simp only[VR]at hx hs;subst hx;obtain⟨ci,off,cap',hci,rfl,hlc,hcc,hex,hbd,hoff⟩:=hs;have hcap:cap'=cap:=hex rfl;subst hcap;obtain⟨z,zs',g1,g2,g3,g4,i,gi,gz⟩:=q2k (p:=p) (w:=w) h1;have hsz:i.size=n:=by unfold szT at h2;rw[gi]at h2;simpa using h2
    have hby:i.bytes=b:=by unfold q5Y at h3;rw[gi]at h3;simpa using h3
    subst hsz hby
    obtain⟨kn,rfl⟩:∃kn:Nat,k=kn:=⟨k.toNat,by omega⟩;simp only[xCg]at *;have hold:∃olds:List Value,(Builtin.firstCells i.size len (.slice (some ⟨ci.c,off,none⟩) len cap')).run P w.drew=.ok olds.toArray w.drew/\VRs p old olds/\olds.length=len*i.size:=by
     have ho:off=a.o+ci.d:=hoff (by omega);subst ho;have hmd:MR P p m w.drew:=hm.of_heap rfl;obtain⟨olds,q1,q2,q3,_⟩:=q2u hmd hci h4;exact⟨olds,by simpa[Builtin.firstCells]using q1 w.drew rfl,q2,q2.length.trans q3⟩
    obtain⟨olds,q1,q2,q3⟩:=hold;have hle:len+kn<=(len+kn)*i.bytes:=xEo _ c4;unfold q0j at c6;have hfit:=growslice_fits (need:=len+kn) (old:=cap') (bytes:=i.bytes) c5 (by omega);have hkb:kn*i.bytes<=(len+kn)*i.bytes:=xAo _ (by omega);have hrun:=Lib.run_append_grow_zeros (P:=P) w st xt ty e i z kq k0 hst hxt gi gz (some ⟨ci.c,off,none⟩) len cap' olds q1 kn (by omega) c3 c5 (by omega) (by omega) hfit
    have hz0:(Builtin.zeroCells z.cells kn).toList=(List.replicate kn zs').flatten:=by
     have:=q8y zs' kn;rw[g2];unfold Builtin.zeroCells;simp only[xDr]at this⊢;rw[this]
    refine⟨_,_,_,hrun,?_,Sim.alloc (el:=e) (fr:=(0,0)) (arr:=olds.toArray++Builtin.zeroCells z.cells kn++Builtin.zeroCells z.cells (grownCap w (len+kn) cap' e-(len+kn))) hm hG (hfree _ (xnr _) (by simp)) rfl rfl rfl rfl (by simp) ?_⟩
    ·simp only[VR,SR];refine⟨⟨w.heap.size,0,_,none⟩,0,grownCap w (len+kn) cap' e,by rw[xAb xFn],rfl,xnr _,grownCap_ge w _ _ e,by simp,fun _=>?_,fun _=>by simp⟩
     have hge:=grownCap_ge w (len+kn) cap' e;have hzs:z.cells.size=i.size:=by rw[g2,xDr,g3.length,c2]
     simp only[Array.size_append,xDr,q3,size_zeroCells,hzs,xnz];rw[<-xCs,<-xCs];apply xAo;omega
    ·intro j y hj;obtain⟨u,h5,h6⟩:=(q2.append (g3.flat kn)).get hj;refine⟨u,?_,h6⟩;rw[Array.getElem?_append_left]
     ·rw[<-xCj,Array.toList_append,hz0];exact h5
     ·have:=(xgi.1 h5).1;rw[<-Array.length_toList,Array.toList_append,hz0];exact this
   ·cases h
  ·cases h
 ·cases h
theorem q92 (hm:MR P p m w) (hG:P.globals.size<=m.next) {st xt ty:TypeId} {s x:AV} {s' x':Value} (hs:VR p s s') (hx:VR p x x') {v:AV} {m':Mem}
  (hfree:q7g p m.next m'.next) (h:q3Y P st xt s x m=some (v,m')) :
  ∃cv w' p',(Builtin.append_ #[st,xt] ty #[s',x']).run P w=.ok cv w'/\VR p' v cv/\Sim P p m w p' m' w':=by
 unfold q3Y at h;split at h
 ·rename_i hxt;exact z1l hm hG hxt hs hx hfree h
 ·obtain⟨nw,h1,h⟩:=be h;exact z1j hm hG h1 hs hx hfree h
theorem z6K (hm:MR P p m w) {st _xt ty:TypeId} {n:Nat} (hel:q5y P st=some n) {d x:AV} {d' x':Value} (hd:VR p d d') (hx:VR p x x') {v:AV} {m':Mem} {ts:List TypeId}
  (h:q1p n d x m=some (v,m')):∃cv w',(Builtin.copy_ ⟨st::ts⟩ ty #[d',x']).run P w=.ok cv w'/\VR p v cv/\Sim P p m w p m' w':=by
 unfold q5y at hel;split at hel
 case h_2=>simp at hel
 rename_i e he;unfold q1p at h;split at h
 case h_2=>simp at h
 rename_i a s len cap ex k cs hsrc;obtain⟨a1,a2,vs',a3,a4⟩:=z08 (P:=P) hm hx hsrc;have hmin:Nat.min k len=min k len:=rfl;have b1:=a4 (min k len) (Nat.min_le_left _ _) w rfl;have hrunS:∀(b:Addr) (c:Nat),(Builtin.copy_ ⟨st::ts⟩ ty #[.slice (some b) len c,x']).run P w =
   ((storeCells b (vs'.take (min k len*n))).run P w).andThen fun _ w'=>.ok (goInt (min k len:Nat)) w':=by
  intro b c;simp only[Builtin.copy_,xEf,xAl,xDr,xAi,xAv,Nat.zero_lt_succ];simp[q0l he,a1,q1j hel,b1]
 have hrunN:∀(c:Nat),(Builtin.copy_ ⟨st::ts⟩ ty #[.slice none len c,x']).run P w=.ok (goInt (min k len:Nat)) w:=by
  intro c;simp only[Builtin.copy_,xEf,xAl,xDr,xAi,xAv,Nat.zero_lt_succ];simp[q0l he,a1,q1j hel,b1]
 split at h
 ·rename_i h0;cases h;refine⟨goInt 0,w,?_,by simp[VR,goInt],Sim.refl hm⟩;cases a with
  |none=>
   simp only[VR]at hd;obtain⟨hl,hc,aa,rfl,_⟩:=hd;subst hl;cases aa with
   |none=>rw[hrunN];simp[goInt]
   |some b=>rw[hrunS];simp[goInt,storeCells]
  |some a=>
   simp only[VR,SR]at hd;obtain⟨ci,off,cap',hci,rfl,_⟩:=hd;rw[hrunS,h0];simp[storeCells,goInt]
 ·rename_i h0;split at h
  ·rename_i a;split at h
   ·split at h
    ·rename_i hone;obtain⟨m1,h1,h2⟩:=xoe.1 h;cases h2;simp only[VR,SR]at hd;obtain⟨ci,off,cap',hci,rfl,hlc,hcc,_,_,hoff⟩:=hd;have:off=a.o+ci.d:=hoff (by omega);subst this;obtain⟨w',h4,h5⟩:=q2G (P:=P) hm hci (a3.take _) hone h1;refine⟨goInt (min k len:Nat),w',?_,by simp[VR,goInt],h5⟩;rw[hrunS,h4];rfl
    ·simp at h
   ·simp at h
  ·simp at h
end
end
section
section
variable {P:Program} {p:Phi} {m:Mem} {w:World}
structure Laid (P:Program) (p:Phi) (v:Blk) (mk:Nat->AV) (w w':World) (cv:Value) (o:Obj) (n:Nat):Prop where
 heap:w'.heap=w.heap.push o
 os:w'.os=w.os
 output:w'.output=w.output
 tape:w'.tape=w.tape
 blk:BR P p ⟨w.heap.size,0,n,none⟩ v o
 value:∀(p2:Phi) b,p2 b=some ⟨w.heap.size,0,n,none⟩->VR p2 (mk b) cv
theorem q4l {cs:List AV} {ro:Bool} {mk:Nat->AV} {w w':World} {cv:Value} {arr:Array Value} {el:TypeId} {fr:Nat×Nat} (h1:w'.heap=w.heap.push (.cells arr el fr)) (h2:w'.os=w.os) (h3:w'.output=w.output) (h4:w'.tape=w.tape)
  (h5:ro=false->∀i,¬(fr.1<=i/\i<fr.2)) (h6:∀(i:Nat) a,cs[i]? = some a->∃v,arr[i]? = some v/\VR p a v) (h7:∀(p2:Phi) b,p2 b=some ⟨w.heap.size,0,arr.size,none⟩->VR p2 (mk b) cv) :
  Laid P p (.cells cs ro) mk w w' cv (.cells arr el fr) arr.size:=
 ⟨h1,h2,h3,h4,⟨arr,el,fr,rfl,rfl,h5,fun i a hi=>let ⟨v,x,y⟩:=h6 i a hi;⟨v,by simpa using x,y⟩⟩,h7⟩
theorem Laid.sim {v:Blk} {mk:Nat->AV} {w':World} {cv:Value} {o:Obj} {n:Nat} (h:Laid P p v mk w w' cv o n) (hm:MR P p m w) (hf:p m.next=none) :
  Sim P p m w (fun b=>if b=m.next then some ⟨w.heap.size,0,n,none⟩ else p b) (m.lay v) w':=
 Sim.lay hm hf (xnr _) (by rw[h.heap];simp) (fun i hi=>by rw[h.heap,xBz hi,<-xAl]) (by rw[h.heap];simp) h.os h.output h.tape fun _ hq=>h.blk.mono hq
theorem q6r {cs:List AV} {vs:List Value} (h:VRs p cs vs):∀(i:Nat) a,cs[i]? = some a->∃v,(⟨vs⟩:Array Value)[i]? = some v/\VR p a v:=by
 intro i a hi;obtain⟨v,h1,h2⟩:=h.get hi;exact⟨v,by simpa using h1,h2⟩
theorem wrap_i64 {n:Int} (h0:-9223372036854775808<=n) (h1:n<9223372036854775808):IntKind.i64.wrap n=n:=by
 have e1:((2:Int) ^ IntKind.i64.bits)=18446744073709551616:=by decide
 have e2:((2:Int) ^ (IntKind.i64.bits-1))=9223372036854775808:=by decide
 have e3:IntKind.i64.signed=true:=rfl;simp only[IntKind.wrap,e1,e2,e3,xAs,xAj];split<;>omega
theorem z0p {o:Oper} {t:List AV} {a:Act} (ht:VRs p t a.tmps.toList) (hg:∀g,g<P.globals.size->∃n,p g=some ⟨g,0,n,none⟩) (hc:cls P o.op=.a) {cs:Blk} {mk:Nat->AV} (h:q3h P o.op t=some (cs,mk)) (w:World) :
  ∃cv w' ob n,(execOp a.eval o).run P w=.ok (.value cv) w'/\Laid P p cs mk w w' cv ob n:=by
 have E:∀{x:Operand} {v:AV},ev P t x=some v->VR p v (a.eval x):=fun h=>q29 ht hg h
 have ho:∃op,o.op=op:=⟨_,rfl⟩;obtain⟨op,ho⟩:=ho;rw[ho]at h hc;unfold q3h at h;split at h
 ·
  rename_i e;obtain⟨zs,hz,e1⟩:=xoe.1 h;cases e1;obtain⟨z,zs',h1,h2,h3,h4,_⟩:=q2k (p:=p) (w:=w) hz;refine⟨.pointer (some ⟨w.heap.size,0,none⟩),w.alloc (.cells ⟨zs'⟩ e),.cells ⟨zs'⟩ e (0,0),_,?_,q4l rfl rfl rfl rfl (by simp) (q6r h3) fun p2 b hb=>by simp only[VR];exact⟨_,hb,by simp⟩⟩
  simp only[execOp,ho,Instr.alloc,Sem.run_bind,h1,Result.andThen_ok,newVar,newRow,run_newObj,h2,Sem.run_pure];rfl
 ·
  rename_i e xo;obtain⟨zs,hz,e1⟩:=xoe.1 h;cases e1;obtain⟨x,hx,hc1⟩:=be hz;obtain⟨zs',h2,h3,h4⟩:=(E hx).cells hc1;refine⟨.pointer (some ⟨w.heap.size,0,none⟩),w.alloc (.cells ⟨zs'⟩ e),.cells ⟨zs'⟩ e (0,0),_,?_,q4l rfl rfl rfl rfl (by simp) (q6r h3) fun p2 b hb=>by simp only[VR];exact⟨_,hb,by simp⟩⟩
  simp only[execOp,ho,Instr.box,Sem.run_bind,Result.andThen_ok,newVar,newRow,run_newObj,h2,Sem.run_pure];rfl
 ·
  rename_i s;split at h
  ·rename_i kt et hd;cases h;refine⟨.map (some w.heap.size),w.alloc (.map #[] 0),.map #[] 0,0,?_,rfl,rfl,rfl,rfl,⟨#[],0,rfl,⟨[],.refl _,by simp[ER]⟩,by simp,by simp⟩,fun p2 b hb=>by simp only[VR];exact⟨_,hb,rfl⟩⟩
   simp only[execOp,ho,Option.map_none,Instr.makeMap,Sem.run_bind,Sem.run_pure,Result.andThen_ok,run_newObj];rfl
  ·simp at h
 ·
  rename_i s len parts;split at h
  ·rename_i e he;split at h
   ·rename_i n zs hn hz;split at h
    ·rename_i hle;obtain⟨ps,hps,h⟩:=be h;obtain⟨r,hr,e1⟩:=xoe.1 h;cases e1;obtain⟨z,zs',h1,h2,h3,h4,_⟩:=q2k (p:=p) (w:=w) hz;have hzl:=h3.length;obtain⟨r',f1,f2⟩:=q6a (q7q ht hg hps) (h3.flat len) hr;refine⟨.slice (some ⟨w.heap.size,0,none⟩) len len,w.alloc (.cells ⟨r'⟩ e),.cells ⟨r'⟩ e (0,0),_,?_,q4l rfl rfl rfl rfl (by simp) (q6r f2) fun p2 b hb=>?_⟩
     ·have e2:(parts.map fun x=>(x.1,a.eval x.2)).toList=parts.toList.map fun (i,x)=>(i,a.eval x):=by simp
      simp only[execOp,ho,Instr.buildSlice,Sem.run_bind,q0l he,q1j hn,Result.andThen_ok];rw[Sem.run_ite,xAa (by omega)];simp only[Sem.run_pure];by_cases h0:len*n=0
      ·have hnil:(List.replicate len zs').flatten=[]:=xBc.1 (by simp[hzl,hle.2,h0]);have hm0:∀f:Nat->Value,(Array.range (len*n)).map f=⟨(List.replicate len zs').flatten⟩:=by intro f;rw[hnil,h0];simp
       rw[xAb h0];simp only[Sem.run_bind,Sem.run_pure,Result.andThen_ok,hm0,e2,f1,newRow,run_newObj];rfl
      ·have hz0:=q8y zs' len;rw[hzl,hle.2]at hz0;have hz1:(Array.range (len*n)).map (fun x=>(⟨zs'⟩:Array Value)[x % (⟨zs'⟩:Array Value).size]!)=⟨(List.replicate len zs').flatten⟩:=by
        rw[<-hz0];simp[hzl,hle.2]
       rw[xAa h0];simp only[Sem.run_bind,h1,h2,Sem.run_pure,Result.andThen_ok,hz1,e2,f1,newRow,run_newObj];rfl
     ·simp only[VR,SR];exact⟨_,0,len,hb,rfl,xnr _,xnr _,fun _=>rfl,by simp,fun _=>by simp⟩
    ·simp at h
   ·simp at h
  ·simp at h
 ·
  rename_i s lo co;obtain⟨l,hl,h⟩:=be h;obtain⟨c,hcc,h⟩:=be h;split at h
  ·rename_i e l c he _;split at h
   ·rename_i n zs wb hn hz hb;split at h
    ·rename_i hle;cases h;obtain⟨z,zs',h1,h2,h3,h4,_⟩:=q2k (p:=p) (w:=w) hz;have hzl:=h3.length;have hl':=E hl;have hc':=E hcc;simp only[VR]at hl' hc';obtain⟨g1,g2,g3,g4,g5⟩:=hle;unfold q0j at g4;have hwl:IntKind.i64.wrap l=l:=wrap_i64 (by omega) (by omega);have hwc:IntKind.i64.wrap c=c:=wrap_i64 (by omega) (by omega);obtain⟨i,hi⟩:∃i,P.info? e=some i/\i.bytes=wb:=by
      unfold q5Y at hb;obtain⟨i,h5,h6⟩:=xoe.1 hb;exact⟨i,h5,h6⟩
     obtain⟨hi,hib⟩:=hi;refine⟨.slice (some ⟨w.heap.size,0,none⟩) l.toNat c.toNat,w.alloc (.cells ⟨(List.replicate c.toNat zs').flatten⟩ e),.cells ⟨(List.replicate c.toNat zs').flatten⟩ e (0,0),_,?_,q4l rfl rfl rfl rfl (by simp) (q6r (h3.flat _)) fun p2 b hb=>?_⟩
     ·have hbc:((wb:Int)*c)=((c.toNat*wb:Nat):Int):=by
       rw[Int.natCast_mul,xFs (by omega),xDk]
      have hlarge:¬(c<0\/(281474976710656:Int)<(wb:Int)*c):=by rw[hbc];omega
      simp only[execOp,ho,hl',hc',Instr.makeSlice,Sem.run_bind,q0l he,Result.andThen_ok,asInt,asIntOf,Sem.run_pure,q8t hi,hwl,hwc,hib];rw[Sem.run_ite,xAa (by simp;omega)];simp only[Result.andThen_ok,run_askRoom,Sem.run_bind,q1j hn];by_cases h0:c.toNat*n=0
      ·have hnil:(List.replicate c.toNat zs').flatten=[]:=xBc.1 (by simp only[List.length_flatten,List.map_replicate,List.sum_replicate_nat,hzl,g5,h0]);have hm0:∀f:Nat->Value,(Array.range (c.toNat*n)).map f=⟨(List.replicate c.toNat zs').flatten⟩:=by intro f;rw[hnil,h0];simp
       rw[xAb h0];simp only[Sem.run_bind,Sem.run_pure,Result.andThen_ok,hm0,newRow,run_newObj];rfl
      ·have hz0:=q8y zs' c.toNat;rw[hzl,g5]at hz0;have hz1:(Array.range (c.toNat*n)).map (fun x=>(⟨zs'⟩:Array Value)[x % (⟨zs'⟩:Array Value).size]!)=⟨(List.replicate c.toNat zs').flatten⟩:=by
        rw[<-hz0];simp[hzl,g5]
       rw[xAa h0];simp only[Sem.run_bind,h1,h2,Sem.run_pure,Result.andThen_ok,hz1,newRow,run_newObj];rfl
     ·simp only[VR,SR];exact⟨_,0,c.toNat,hb,rfl,by omega,xnr _,fun _=>rfl,by simp,fun _=>by simp⟩
    ·simp at h
   ·simp at h
  ·simp at h
 ·
  rename_i src dst xo;obtain⟨x,hx,h⟩:=be h;split at h
  ·rename_i e s hsome he;split at h
   ·rename_i heu hsz;cases h;have hx':=E hx;simp only[VR]at hx';obtain⟨d,hd⟩:=Option.isSome_iff_exists.1 hsome
    let cap:=grownCap w s.length 0 e
    have hge:s.length<=cap:=grownCap_ge w s.length 0 e
    let arr:Array Value:=(⟨s⟩:Array UInt8).map (fun b=>Value.int .u8 b.toNat)++Array.replicate (cap-s.length) (.int .u8 0)
    have hsz:arr.size=cap:=by simp[arr];omega
    refine⟨.slice (some ⟨w.heap.size,0,none⟩) s.length cap,{w.drew with heap:=w.heap.push (.cells arr e (cap,cap+1))},.cells arr e (cap,cap+1),_,?_,q4l rfl rfl rfl rfl (by simp) (fun i x hi=>?_) fun p2 b hb=>?_⟩
    ·simp only[execOp,ho,hx',convert,Sem.run_bind,q0l hd,q0l he,Result.andThen_ok];have hconv:(Conv.stringToBytes e ⟨⟨s⟩⟩).run P w=.ok (.slice (some ⟨w.heap.size,0,none⟩) s.length cap) {w.drew with heap:=w.heap.push (.cells arr e (cap,cap+1))}:=by
      simp only[Conv.stringToBytes,Sem.run_bind,run_choose,q7c,Question.forced,xbq,xAh,Result.andThen_ok,newRow,run_newObj,Sem.run_pure,markStringish,run_shape,World.shape?];have hcut:(Question.appendCap s.length 0 e).cut (w.tape w.drawn (.appendCap s.length 0 e))=cap:=rfl;simp only[Array.getElem?_push_size,hcut];have harr:(((⟨s⟩:Array UInt8).map fun b=>Value.int .u8 b.toNat)++Array.replicate (cap-s.length) (.int .u8 0))=arr:=rfl
      simp only[harr,run_freeze,Result.andThen_ok,World.freeze,hsz];simp only[Nat.one_ne_zero,xAh];congr 1;simp only[World.drew,World.mk.injEq,xFb];apply Array.ext
      ·simp
      ·intro i hi1 hi2;simp only[Array.size_push]at hi2;simp only[Array.getElem_modify,Array.getElem_push];by_cases hi:i<w.heap.size
       ·rw[xAa (by omega)];simp[hi]
       ·rw[xAb (by omega)];simp[hi]
     cases d<;>simp only[q0l heu,Result.andThen_ok,hconv,Sem.run_pure]
    ·simp only[xBi,xoe]at hi;obtain⟨c,hc,rfl⟩:=hi;refine⟨.int .u8 c.toNat,?_,by simp[VR]⟩;have:=(xgi.1 hc).1;simp only[arr];rw[Array.getElem?_append_left (by simpa using this)];simp[hc]
    ·simp only[VR,SR];exact⟨_,0,cap,hb,rfl,xnr _,hge,by simp,fun _=>by simp[hsz],fun _=>by simp⟩
   ·simp at h
  ·simp at h
 ·simp at h
end
end
section
section
variable {P:Program}
abbrev GP (P:Program):Nat:=P.globals.size
def z2O (P:Program) (tg:Tg) (args:List AV) (m:Mem) (r:AV) (m':Mem):Prop:=
 m.next<=m'.next/\∀(p:Phi) (w:World) (cargs:List Value),MR P p m w->GP P<=m.next->q7g p m.next m'.next->VRs p args cargs->
  match tg with
  | .fn f => (∃ fn, P.funcs[f]? = some fn ∧ fn.body.isSome = true ∧ fn.name ≠ "runtime.NumGoroutine" ∧
    Calls P f ⟨cargs⟩ w fun e w'=>∃cv p',e=.returned cv/\VR p' r cv/\Sim P p m w p' m' w')\/
   (∃cv w' p',(callFunc f ⟨cargs⟩).run P w=.ok (.value cv) w'/\VR p' r cv/\Sim P p m w p' m' w')
  | .yl b=>∀ci,p b=some ci->∃f tmps assign body,(Instr.yield ci.c ⟨cargs⟩).run P w=.ok (.round ci.c f tmps assign body) w/\
    ∀(c:Frame) (cs:List Frame),∃cv p' w',VR p' r cv/\Sim P p m w p' m' w'/\Steps P (lone (Frame.round ci.c f tmps assign body .normal) (c::cs) w) (lone (c.finish cv) cs w')
def q10 (P:Program) (call:q04):Prop:=∀tg args m r m',call tg args m=some (r,m')->z2O P tg args m r m'
def j0C (P:Program) (o:Oper) (t:List AV) (m:Mem) (v:AV) (m':Mem):Prop:=
 m.next<=m'.next/\∀(p:Phi) (a:Act) (w:World),MR P p m w->GP P<=m.next->q7g p m.next m'.next->VRs p t a.tmps.toList->
  ∀(b:Frame) (ops:Array Oper) (i:Nat) (rest:List Nat) (k:List Item) (cs:List Frame),ops[i]? = some o->Region.wanted o (yielded ops a.tmps)=true->
   ∃cv p' w',VR p' v cv/\Sim P p m w p' m' w'/\Steps P (lone (b.atR a (.inRegion ops (i::rest)::k)) cs w) (lone (b.atR (a.put o.dst cv) (.inRegion ops rest::k)) cs w')
theorem q6X {o:Oper} {ρ:Operand->Value} {w w':World} {n:Next} (h:(execOp ρ o).run P w=.ok n w') (hn:∀d,n≠.defer d):∀c,o.op≠.defer c:=by
 intro c hc;simp only[execOp,hc,Sem.run_bind]at h;cases e:(resolve ρ c o.type).run P w with
 |ok d w2=>rw[e]at h;simp only[Result.andThen_ok,Sem.run_pure]at h;injection h with h1 h2;exact hn d h1.symm
 |halt x w2=>rw[e]at h;simp at h
section step
variable {b:Frame} {a:Act} {k:List Item} {cs:List Frame} {w w':World} {ops:Array Oper} {i:Nat} {rest:List Nat} {o:Oper}
theorem q3w {v:Value} (ho:ops[i]? = some o) (hw:Region.wanted o (yielded ops a.tmps)=true) (h:(execOp a.eval o).run P w=.ok (.value v) w') :
  step P (lone (b.atR a (.inRegion ops (i::rest)::k)) cs w)=.next (lone (b.atR (a.put o.dst v) (.inRegion ops rest::k)) cs w'):=by
 have hg:=stepGR_op (P:=P) (b:=b) (k:=k) (cs:=cs) (w:=w) (rest:=rest) ho hw;rw[Oper.semAt_eq _ _ _ (q6X h (by simp))]at hg;have hfin:(b.atR a (.inRegion ops (i::rest)::k)).finish v=b.atR (a.put o.dst v) (.inRegion ops rest::k):=by rw[Frame.finish_atR,ho];rfl
 refine step_lone_go ?_;rw[hg,<-hfin];simp[stepG.apply,h]
theorem z5X (ho:ops[i]? = some o) (hw:Region.wanted o (yielded ops a.tmps)=true) (h:(execOp a.eval o).run P w=.ok .skip w') :
  step P (lone (b.atR a (.inRegion ops (i::rest)::k)) cs w)=.next (lone (b.atR (a.put o.dst undef) (.inRegion ops rest::k)) cs w'):=by
 have hg:=stepGR_op (P:=P) (b:=b) (k:=k) (cs:=cs) (w:=w) (rest:=rest) ho hw;rw[Oper.semAt_eq _ _ _ (q6X h (by simp))]at hg;have hfin:(b.atR a (.inRegion ops (i::rest)::k)).finish undef=b.atR (a.put o.dst undef) (.inRegion ops rest::k):=by rw[Frame.finish_atR,ho];rfl
 refine step_lone_go ?_;rw[hg,<-hfin];simp[stepG.apply,h]
theorem j1z {f:FuncId} {args:Array Value} (ho:ops[i]? = some o) (hw:Region.wanted o (yielded ops a.tmps)=true) (h:(execOp a.eval o).run P w=.ok (.enter f args) w') :
  step P (lone (b.atR a (.inRegion ops (i::rest)::k)) cs w)=.next (lone (Frame.enter P f args .normal) (b.atR a (.inRegion ops (i::rest)::k)::cs) w'):=by
 have hg:=stepGR_op (P:=P) (b:=b) (k:=k) (cs:=cs) (w:=w) (rest:=rest) ho hw;rw[Oper.semAt_eq _ _ _ (q6X h (by simp))]at hg;refine step_lone_go ?_;rw[hg];simp[stepG.apply,h,Frame.atR]
theorem j1A {l:Nat} {f:FuncId} {tmps:Array Value} {assign body:Code} (ho:ops[i]? = some o) (hw:Region.wanted o (yielded ops a.tmps)=true) (h:(execOp a.eval o).run P w=.ok (.round l f tmps assign body) w') :
  step P (lone (b.atR a (.inRegion ops (i::rest)::k)) cs w)=.next (lone (Frame.round l f tmps assign body .normal) (b.atR a (.inRegion ops (i::rest)::k)::cs) w'):=by
 have hg:=stepGR_op (P:=P) (b:=b) (k:=k) (cs:=cs) (w:=w) (rest:=rest) ho hw;rw[Oper.semAt_eq _ _ _ (q6X h (by simp))]at hg;refine step_lone_go ?_;rw[hg];simp[stepG.apply,h,Frame.atR]
theorem z0E (ho:ops[i]? = some o) (v:Value):(b.atR a (.inRegion ops (i::rest)::k)).finish v=b.atR (a.put o.dst v) (.inRegion ops rest::k):=by rw[Frame.finish_atR,ho];rfl
end step
theorem j0C.q2C {o:Oper} {t:List AV} {m:Mem} {v:AV} {m':Mem} (h0:m.next<=m'.next)
  (h:∀(p:Phi) (a:Act) (w:World),MR P p m w->GP P<=m.next->q7g p m.next m'.next->VRs p t a.tmps.toList->
   ∃cv w' p',((execOp a.eval o).run P w=.ok (.value cv) w'\/((execOp a.eval o).run P w=.ok .skip w'/\cv=undef))/\VR p' v cv/\Sim P p m w p' m' w'):j0C P o t m v m':=by
 refine⟨h0,fun p a w hm hG hf ht b ops i rest k cs ho hw=>?_⟩
 obtain⟨cv,w',p',h1,h2,h3⟩:=h p a w hm hG hf ht;rcases h1 with h1|⟨h1,rfl⟩
 ·exact⟨cv,p',w',h2,h3,.one (q3w ho hw h1)⟩
 ·exact⟨undef,p',w',h2,h3,.one (z5X ho hw h1)⟩
theorem j0C.pure {o:Oper} {t:List AV} {m:Mem} {v:AV} (h:q5f P o.op t=some v):j0C P o t m v m:=
 .q2C (xnr _) fun p _a w hm _ _ ht=>
  let ⟨cv,h1,h2⟩:=z0Y (w:=w) ht hm.q23 h
  ⟨cv,w,p,.inl h1,h2,Sim.refl hm⟩
theorem j0C.read {o:Oper} {t:List AV} {m:Mem} {v:AV} (hc:cls P o.op=.r) (h:q1r P o.op t m=some v):j0C P o t m v m:=
 .q2C (xnr _) fun p _a w hm _ _ ht=>
  let ⟨cv,h1,h2⟩:=z01 hm ht hc h
  ⟨cv,w,p,.inl h1,h2,Sim.refl hm⟩
theorem j0C.alloc {o:Oper} {t:List AV} {m:Mem} {cs:Blk} {mk:Nat->AV} (hc:cls P o.op=.a) (h:q3h P o.op t=some (cs,mk)):j0C P o t m (mk m.next) (m.lay cs):=
 .q2C (by simp) fun p a w hm hG hf ht=>by
  obtain⟨cv,w',ob,n,h1,h2⟩:=z0p ht hm.q23 hc h w;exact⟨cv,w',_,.inl h1,h2.value _ _ (by simp),h2.sim hm (hf _ (xnr _) (by simp))⟩
theorem z6B {call:q04} (hcall:q10 P call) {o:Oper} {f:Operand} {xs:List Operand} {ts:Array TypeId} (ho:o.op=.call {callee:=.value f,args:=⟨xs⟩,argTypes:=ts})
  {t:List AV} {m:Mem} {fv:AV} {as:List AV} {r:AV} {m':Mem} (hf:ev P t f=some fv) (ha:evs P t xs=some as) (h:q1m call fv as m=some (r,m')):j0C P o t m r m':=by
 unfold q1m at h;split at h
 ·rename_i g first cap
  obtain⟨h0,hfn⟩:=hcall _ _ _ _ _ h;refine⟨h0,fun p a w hm hG hfree ht b ops i rest k cs hoi hw=>?_⟩
  have hfv:=q29 ht hm.q23 hf;have has:=q8V ht hm.q23 ha;simp only[VR]at hfv;obtain⟨first',cap',hfe,h1,h2⟩:=hfv
  have hrun:(execOp a.eval o).run P w=(callFunc g ⟨first'++xs.map a.eval++cap'⟩).run P w:=by
   simp only[execOp,ho,resolve,hfe,Deferred.ofValue,Sem.run_bind,Sem.run_pure,Result.andThen_ok,invoke];congr 2;simp
  rcases hfn p w _ hm hG hfree ((h1.append has).append h2) with ⟨fn,g1,g2,g3,g4⟩|⟨cv,w',p',g1,g2,g3⟩
  ·have he:(callFunc g ⟨first'++xs.map a.eval++cap'⟩).run P w=.ok (.enter g ⟨first'++xs.map a.eval++cap'⟩) w:=by
    have hb:fn.body.isNone=false:=by cases hbb:fn.body<;>simp[hbb]at g2⊢
    have hn2 : (fn.name == "runtime.NumGoroutine") = false := by simpa using g3
    simp only[callFunc,Sem.run_bind,run_program,Result.andThen_ok,g1,hn2,hb,xbq,xAh,Sem.run_pure]
   obtain⟨e,w',fr,⟨cv,p',rfl,k1,k2⟩,k3,k4,k5⟩:=g4 (b.atR a (.inRegion ops (i::rest)::k)::cs);refine⟨cv,p',w',k1,k2,.head (j1z hoi hw (hrun.trans he)) (Steps.trans k3 (.one ?_))⟩;rw[<-z0E hoi];exact step_leave_returned k5
  ·exact⟨cv,p',w',g2,g3,.one (q3w hoi hw (hrun.trans g1))⟩
 ·rename_i l;obtain⟨h0,hfn⟩:=hcall _ _ _ _ _ h;refine⟨h0,fun p a w hm hG hfree ht b ops i rest k cs hoi hw=>?_⟩
  have hfv:=q29 ht hm.q23 hf;have has:=q8V ht hm.q23 ha;simp only[VR]at hfv;obtain⟨ci,hci,hfe⟩:=hfv;obtain⟨g,tmps,assign,body,h1,h2⟩:=hfn p w _ hm hG hfree has ci hci;have hrun:(execOp a.eval o).run P w=.ok (.round ci.c g tmps assign body) w:=by
   simp only[execOp,ho,resolve,hfe,Deferred.ofValue,Sem.run_bind,Sem.run_pure,Result.andThen_ok,invoke];rw[<-h1];congr 2;simp
  obtain⟨cv,p',w',k1,k2,k3⟩:=h2 (b.atR a (.inRegion ops (i::rest)::k)) cs;refine⟨cv,p',w',k1,k2,.head (j1A hoi hw hrun) ?_⟩;rw[<-z0E hoi];exact k3
 ·simp at h
theorem z7l {t:TypeId} {x v:AV} {m m':Mem} (h:q9H P t x m=some (v,m')):m.next<=m'.next:=by
 unfold q9H at h;split at h
 ·split at h
  ·cases h;simp
  ·cases h
 ·cases h
theorem z5z {p:Phi} {m:Mem} {w:World} (hm:MR P p m w) {t:TypeId} {x v:AV} {x':Value} {m':Mem} (hf:q7g p m.next m'.next) (hx:VR p x x') (h:q9H P t x m=some (v,m')) :
  ∃cv w' p',(Instr.range t x').run P w=.ok cv w'/\VR p' v cv/\Sim P p m w p' m' w':=by
 unfold q9H at h;split at h
 ·rename_i key elem b ht;split at h
  ·rename_i es hb;cases h;simp only[VR]at hx;obtain⟨ci,h1,rfl⟩:=hx;obtain⟨o,h2,ces,clock,rfl,⟨l,h3,h4⟩,h5⟩:=hm.has b _ ci hb h1;have hfr:p m.next=none:=hf _ (xnr _) (by simp)
   have hlt:=hm.bnd b ci h1;have hbl:=Mem.q0u hb;have s1:=Sim.lay (v:=.iter b es none) (o:=.mapIter (some ci.c) clock #[] clock) (n:=0) (g:=some (ces,clock)) (w':=w.alloc (.mapIter (some ci.c) clock #[] clock)) hm hfr (xnr w.heap.size) (by show (w.heap.push _)[w.heap.size]? = _;simp) (fun i hi=>by show (w.heap.push _)[i]? = _;rw[xBz hi,xAl]) (by show w.heap.size<=(w.heap.push _).size;simp) rfl rfl rfl
    (fun q hq=>⟨ci,ces,clock,#[],clock,rfl,hq _ _ h1,rfl,rfl,xnr _,⟨l,h3,by
     have:(ces.toList.filter fun e=>!(#[]:Array Nat).contains e.born)=ces.toList:=by rw[List.filter_eq_self];intro a _;simp
     rw[this];exact h4.mono hq⟩,fun e he=>by cases he⟩)
   have hg:(m.lay (.iter b es none)).get b=some (.map es):=by rw[Mem.q0J,xAa (by omega)];exact hb
   have s2:=Sim.z2E (v:=some (.rmap es m.next)) (o:=.map ces clock) s1.rel hg (by simp) (s1.le _ _ h1) (w':=w.alloc (.mapIter (some ci.c) clock #[] clock)) (by show (w.heap.push _)[ci.c]? = _;rw[xBz hlt,<-xAl];exact h2) (fun _ _=>rfl) rfl rfl rfl rfl
    (fun y hy=>by cases hy;exact⟨ces,clock,rfl,⟨l,h3,h4.mono s1.le⟩,h5,⟨w.heap.size,0,0,some (ces,clock)⟩,by simp,rfl⟩)
   refine⟨.pointer (some ⟨w.heap.size,0,none⟩),_,_,?_,?_,s1.trans s2 hf⟩
   ·simp[Instr.range,q0l ht,q0Y h2 (by simp)]
   ·simp only[VR];exact⟨⟨w.heap.size,0,0,some (ces,clock)⟩,by simp,rfl⟩
  ·cases h
 ·cases h
theorem z0A {call:q04} (hcall:q10 P call) {o:Oper} {t:List AV} {m:Mem} {K:AV->Mem->R} {r:AV×Mem} (h:z6m call P o.op t m K=some r) :
  ∃v m',K v m'=some r/\j0C P o t m v m':=by
 have ho:∃op,o.op=op:=⟨_,rfl⟩;obtain⟨op,ho⟩:=ho;rw[ho]at h;unfold z6m at h;split at h
 ·
  rename_i s ao vo;obtain⟨x,h1,h⟩:=be h;obtain⟨y,h2,h⟩:=be h;obtain⟨n,h3,h⟩:=be h;obtain⟨m',h4,h⟩:=be h;have hnext:m'.next=m.next:=by
   unfold stV at h4;split at h4
   ·split at h4
    ·split at h4
     ·obtain⟨_,_,_,rfl⟩:=q2p h4;rfl
     ·simp at h4
    ·simp at h4
   ·simp at h4
  refine⟨.undef,m',h,.q2C (by omega) fun p a w hm hG hf ht=>?_⟩
  obtain⟨w',h5,h6⟩:=a0v (P:=P) hm (q29 ht hm.q23 h1) (q29 ht hm.q23 h2) h3 h4;exact⟨undef,w',p,.inr ⟨by simp[execOp,ho,h5],rfl⟩,by simp[VR],h6⟩
 ·
  rename_i so xo st xt;obtain⟨s,h2,h⟩:=be h;obtain⟨x,h3,h⟩:=be h;obtain⟨⟨v,m'⟩,h4,h⟩:=be h;refine⟨v,m',h,.q2C (z1k h4) fun p a w hm hG hf ht=>?_⟩
  obtain⟨cv,w',p',h5,h6,h7⟩:=q92 (P:=P) (ty:=o.type) hm hG (q29 ht hm.q23 h2) (q29 ht hm.q23 h3) hf h4;refine⟨cv,w',p',.inl ?_,h6,h7⟩;simp only[execOp,ho];rw[q1q];simp only[builtin,xBf,xFw,Sem.run_bind];rw[show (⟨[a.eval so,a.eval xo]⟩:Array Value)=#[a.eval so,a.eval xo] from rfl,show (⟨[st,xt]⟩:Array TypeId)=#[st,xt] from rfl,h5];rfl
 ·
  rename_i so xo st ts;obtain⟨n,h1,h⟩:=be h;obtain⟨d,h2,h⟩:=be h;obtain⟨x,h3,h⟩:=be h;obtain⟨⟨v,m'⟩,h4,h⟩:=be h;have hnext:m'.next=m.next:=by
   unfold q1p at h4;split at h4
   ·split at h4
    ·cases h4;rfl
    ·split at h4
     ·split at h4
      ·split at h4
       ·obtain⟨m1,h5,e⟩:=xoe.1 h4;cases e;obtain⟨_,_,_,rfl⟩:=q2p h5;rfl
       ·simp at h4
      ·simp at h4
     ·simp at h4
   ·simp at h4
  refine⟨v,m',h,.q2C (by omega) fun p a w hm hG hf ht=>?_⟩
  obtain⟨cv,w',h5,h6,h7⟩:=z6K (P:=P) (ty:=o.type) (_xt:=st) (ts:=ts) hm h1 (q29 ht hm.q23 h2) (q29 ht hm.q23 h3) h4;refine⟨cv,w',p,.inl ?_,h6,h7⟩;simp only[execOp,ho];rw[q1q];simp only[builtin,xBf,xFw,Sem.run_bind];rw[show (⟨[a.eval so,a.eval xo]⟩:Array Value)=#[a.eval so,a.eval xo] from rfl,h5];rfl
 ·
  rename_i s xo ko vo;obtain⟨x,h1,h⟩:=be h;obtain⟨k,h2,h⟩:=be h;obtain⟨v,h3,h⟩:=be h;obtain⟨m',h4,h⟩:=be h;refine⟨.undef,m',h,.q2C (Nat.le_of_eq (q9u h4).symm) fun p a w hm hG hf ht=>?_⟩
  obtain⟨w',h5,h6⟩:=q7T hm (q29 ht hm.q23 h1) (q29 ht hm.q23 h2) (q29 ht hm.q23 h3) h4;exact⟨undef,w',p,.inr ⟨by simp[execOp,ho,h5],rfl⟩,by simp[VR],h6⟩
 ·rename_i s xo ko vo;obtain⟨x,h1,h⟩:=be h;obtain⟨k,h2,h⟩:=be h;obtain⟨v,h3,h⟩:=be h;obtain⟨m',h4,h⟩:=be h;refine⟨.undef,m',h,.q2C (Nat.le_of_eq (q9u h4).symm) fun p a w hm hG hf ht=>?_⟩
  obtain⟨w',h5,h6⟩:=q7T hm (q29 ht hm.q23 h1) (q29 ht hm.q23 h2) (q29 ht hm.q23 h3) h4;exact⟨undef,w',p,.inr ⟨by simp[execOp,ho,h5],rfl⟩,by simp[VR],h6⟩
 ·
  rename_i xo ko st ts;obtain⟨x,h1,h⟩:=be h;obtain⟨k,h2,h⟩:=be h;obtain⟨m',h4,h⟩:=be h;refine⟨.undef,m',h,.q2C (Nat.le_of_eq (z7e h4).symm) fun p a w hm hG hf ht=>?_⟩
  obtain⟨w',h5,h6⟩:=z5f (ty:=o.type) (ts:=ts) hm (q29 ht hm.q23 h1) (q29 ht hm.q23 h2) h4;refine⟨.tuple #[],w',p,.inl ?_,by simp[VR],h6⟩;simp only[execOp,ho];rw[q1q];simp only[builtin,xBf,xFw,Sem.run_bind];rw[show (⟨[a.eval xo,a.eval ko]⟩:Array Value)=#[a.eval xo,a.eval ko] from rfl,h5];rfl
 ·
  rename_i xo st ts;obtain⟨x,h1,h⟩:=be h;obtain⟨m',h4,h⟩:=be h;refine⟨.undef,m',h,.q2C (Nat.le_of_eq (z6F h4).symm) fun p a w hm hG hf ht=>?_⟩
  obtain⟨w',h5,h6⟩:=z3B (ty:=o.type) (ts:=ts) hm (q29 ht hm.q23 h1) h4;refine⟨.tuple #[],w',p,.inl ?_,by simp[VR],h6⟩;simp only[execOp,ho];rw[q1q];simp only[builtin,xBf,xFw,Sem.run_bind];rw[show (⟨[a.eval xo]⟩:Array Value)=#[a.eval xo] from rfl,h5];rfl
 ·
  rename_i f xs ts;obtain⟨fv,h1,h⟩:=be h;obtain⟨as,h2,h⟩:=be h;obtain⟨⟨v,m'⟩,h3,h⟩:=be h;exact⟨v,m',h,z6B hcall ho h1 h2 h3⟩
 ·
  rename_i s xo;obtain⟨x,h1,h⟩:=be h;obtain⟨⟨v,m'⟩,h3,h⟩:=be h;refine⟨v,m',h,.q2C (z7l h3) fun p a w hm hG hf ht=>?_⟩
  obtain⟨cv,w',p',h5,h6,h7⟩:=z5z hm hf (q29 ht hm.q23 h1) h3;exact⟨cv,w',p',.inl (by simp[execOp,ho,h5]),h6,h7⟩
 ·simp at h
theorem j9E {call:q04} (hcall:q10 P call) {o:Oper} {t:List AV} {m:Mem} {K:AV->Mem->R} {r:AV×Mem} (h:opK call P o.op t m K=some r) :
  ∃v m',K v m'=some r/\j0C P o t m v m':=by
 unfold opK at h;split at h
 ·obtain⟨v,h1,h⟩:=be h;exact⟨v,m,h,.pure h1⟩
 ·rename_i hc;obtain⟨v,h1,h⟩:=be h;exact⟨v,m,h,.read hc h1⟩
 ·rename_i hc;obtain⟨⟨cs,mk⟩,h1,h⟩:=be h;exact⟨mk m.next,m.lay cs,h,.alloc hc h1⟩
 ·exact z0A hcall h
theorem z4Q {all:List Oper} {o:Oper} {t:List AV} {sk:List Tmp} {y n:List AV->R} {r:AV×Mem} (h:q35 sk all o t y n=some r) :
  (y t=some r/\∀(p:Phi) (tmps:Array Value),VRs p t tmps.toList->Region.wanted o (yielded ⟨all⟩ tmps)=true)\/
  (n t=some r/\∀(p:Phi) (tmps:Array Value),VRs p t tmps.toList->Region.wanted o (yielded ⟨all⟩ tmps)=false):=by
 replace h:=q9h h
 unfold z1V at h;split at h
 ·rename_i hg;exact .inl ⟨h,fun p tmps _=>by simp[Region.wanted,hg]⟩
 ·rename_i j want hg;split at h
  ·rename_i d hd;split at h
   ·rename_i b hb;have hy:∀(p:Phi) (tmps:Array Value),VRs p t tmps.toList->yielded ⟨all⟩ tmps j=some b:=by
     intro p tmps ht;have:t[d]? = some (.bool b):=by
      cases e:t[d]? with
      |none=>rw[xAe,e]at hb;simp at hb
      |some x=>rw[xAe,e]at hb;simp at hb;rw[hb]
     obtain⟨v,h1,h2⟩:=ht.get this;simp only[VR]at h2;subst h2;unfold yielded;have h1':tmps[d]? = some (.bool b):=by rw[<-xCj];exact h1
     have hd':((⟨all⟩:Array Oper)[j]?).bind (·.dst)=some d:=by simpa using hd
     rw[hd'];simp[h1']
    split at h
    ·rename_i hbw;refine .inl ⟨h,fun p tmps ht=>?_⟩
     simp only[Region.wanted,hg,hy p tmps ht,hbw];simp
    ·rename_i hbw;refine .inr ⟨h,fun p tmps ht=>?_⟩
     simp only[Region.wanted,hg,hy p tmps ht];simpa using hbw
   ·rename_i hb;refine .inr ⟨h,fun p tmps ht=>?_⟩
    have:t[d]? = some (.tup []):=by
     cases e:t[d]? with
     |none=>rw[xAe,e]at hb;simp at hb
     |some x=>rw[xAe,e]at hb;simp at hb;rw[hb]
    obtain⟨v,h1,h2⟩:=ht.get this;simp only[VR]at h2;obtain⟨vs,rfl,h3⟩:=h2;have hd':((⟨all⟩:Array Oper)[j]?).bind (·.dst)=some d:=by simpa using hd
    have h1':tmps[d]? = some (.tuple ⟨vs⟩):=by rw[<-xCj];exact h1
    have hy:yielded ⟨all⟩ tmps j=none:=by unfold yielded;rw[hd'];simp[h1']
    simp only[Region.wanted,hg,hy];rfl
   ·simp at h
  ·simp at h
theorem VRs.q3U {p:Phi} {t:List AV} {a:Act} (h:VRs p t a.tmps.toList) (d:Option Tmp) {v:AV} {cv:Value} (hv:VR p v cv):VRs p (q3U t d v) (a.put d cv).tmps.toList:=by
 cases d with
 |none=>exact h
 |some d=>simp only[Abs.q3U,q6g,Act.put,Array.toList_setIfInBounds];exact h.set d hv
theorem q2R (a:Act) (d:Option Tmp) (v:Value):(a.put d v).defers=a.defers:=by cases d<;>rfl
def z3d (P:Program) (all:List Oper) (idx:List Nat) (t:List AV) (m:Mem) (t':List AV) (m':Mem):Prop:=
 m.next<=m'.next/\∀(p:Phi) (a:Act) (w:World),MR P p m w->GP P<=m.next->q7g p m.next m'.next->VRs p t a.tmps.toList->∀(b:Frame) (k:List Item) (cs:List Frame),
  ∃p' a' w',VRs p' t' a'.tmps.toList/\a'.defers=a.defers/\Sim P p m w p' m' w'/\Steps P (lone (b.atR a (.inRegion ⟨all⟩ idx::k)) cs w) (lone (b.atR a' (.inRegion ⟨all⟩ []::k)) cs w')
theorem z3d.cons {all:List Oper} {o:Oper} {i:Nat} (hi:all[i]? = some o) {idx:List Nat} {t:List AV} {m:Mem} {v:AV} {m1:Mem} {t':List AV} {m':Mem}
  (hw:∀(p:Phi) (tmps:Array Value),VRs p t tmps.toList->Region.wanted o (yielded ⟨all⟩ tmps)=true) (h:j0C P o t m v m1) (h':z3d P all idx (q3U t o.dst v) m1 t' m'):z3d P all (i::idx) t m t' m':=by
 refine⟨xnt0 h.1 h'.1,fun p a w hm hG hf ht b k cs=>?_⟩
 have hi':(⟨all⟩:Array Oper)[i]? = some o:=by simpa using hi
 obtain⟨cv,p1,w1,hv,hs,hst⟩:=h.2 p a w hm hG (hf.sub (xnr _) h'.1) ht b ⟨all⟩ i idx k cs hi' (hw p a.tmps ht);obtain⟨p',a',w',k1,k2,k3,k4⟩:=h'.2 p1 _ w1 hs.rel (xnt0 hG hs.next) (hf.step hs) ((ht.mono hs.le).q3U _ hv) b k cs
 exact⟨p',a',w',k1,k2.trans (q2R _ _ _),hs.trans k3 hf,Steps.trans hst k4⟩
theorem z3d.skip {all:List Oper} {o:Oper} {i:Nat} (hi:all[i]? = some o) {idx:List Nat} {t:List AV} {m:Mem} {t':List AV} {m':Mem}
  (hw:∀(p:Phi) (tmps:Array Value),VRs p t tmps.toList->Region.wanted o (yielded ⟨all⟩ tmps)=false) (h':z3d P all idx (q3U t o.dst (.tup [])) m t' m'):z3d P all (i::idx) t m t' m':=by
 refine⟨h'.1,fun p a w hm hG hf ht b k cs=>?_⟩
 have hi':(⟨all⟩:Array Oper)[i]? = some o:=by simpa using hi
 have hs:=stepR_op_skip (P:=P) (b:=b) (a:=a) (k:=k) (cs:=cs) (w:=w) (ops:=⟨all⟩) (i:=i) (rest:=idx) (by simp only[hi',xom,xEt];exact hw p a.tmps ht);simp only[hi',xAr]at hs;obtain⟨p',a',w',k1,k2,k3,k4⟩:=h'.2 p _ w hm hG hf (ht.q3U _ (by simp only[VR];exact⟨[],rfl,by simp[VRs]⟩)) b k cs;exact⟨p',a',w',k1,k2.trans (q2R _ _ _),k3,.head hs k4⟩
theorem q3u {call:q04} (hcall:q10 P call) {all:List Oper}:∀(os:List Oper) (i:Nat),(∀j,os[j]? = all[i+j]?)->∀{sk:List Tmp} {t:List AV} {m:Mem} {K:List AV->Mem->R} {r:AV×Mem},z5o call P all os sk t m K=some r->
  ∃t' m',K t' m'=some r/\z3d P all (List.range' i os.length) t m t' m'
 |[],i,_,_,t,m,K,r,h=>⟨t,m,h,xnr _,fun p a w hm _ _ ht b k cs=>⟨p,a,w,ht,rfl,Sim.refl hm,.refl _ _⟩⟩
 |o::os,i,hall,_,t,m,K,r,h=>by
  simp only[z5o]at h;have hi:all[i]? = some o:=by have:=hall 0;simpa using this.symm
  have hall':∀j,os[j]? = all[i+1+j]?:=fun j=>by
   have:=hall (j+1);rw[xgs]at this;rw[this];congr 1;omega
  rw[xAi,List.range'_succ];rcases z4Q h with ⟨h,hw⟩|⟨h,hw⟩
  ·obtain⟨v,m1,h1,h2⟩:=j9E hcall h;obtain⟨t',m',h3,h4⟩:=q3u hcall os (i+1) hall' h1;exact⟨t',m',h3,.cons hi hw h2 h4⟩
  ·obtain⟨t',m',h3,h4⟩:=q3u hcall os (i+1) hall' h;exact⟨t',m',h3,.skip hi hw h4⟩
end
end
end Go.Abs
