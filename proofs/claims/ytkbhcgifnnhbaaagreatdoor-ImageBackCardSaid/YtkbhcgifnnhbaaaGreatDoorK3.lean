/- Texts of one claim, put together. -/
import Derived.Test.YtkbhcgifnnhbaaaGreatDoorK2
import Derived.Laws.IdiomCopy
import Derived.Laws.Append
namespace Go.Abs
open Go
section
section
variable {P:Program} {p:Phi} {m:Mem} {w:World}
theorem q3D {c o:Nat} {arr:Array Value} {el:TypeId} {fr:Nat×Nat} (h:w.heap[c]? = some (.cells arr el fr)):w.cell? ⟨c,o,none⟩=arr[o]?:=by
 simp[World.cell?,h]
theorem MR.cell (h:MR P p m w) {b:Nat} {cs:List AV} {ci:CI} {ro:Bool} (hm:m.get b=some (.cells cs ro)) (hp:p b=some ci) {i:Nat} {a:AV} (hi:cs[i]? = some a) :
  ∃v,w.cell? ⟨ci.c,i+ci.d,none⟩=some v/\VR p a v:=by
 obtain⟨arr,el,fr,h1,h2,h3,h4⟩:=h.live b cs ro ci hm hp;obtain⟨v,h5,h6⟩:=h4 i a hi;exact⟨v,by rw[q3D h1,Nat.add_comm];exact h5,h6⟩
theorem q2m {a:AA} {n:Nat} {vs:List AV} (h:q0C m a n=some vs):∃cs ro,m.get a.b=some (.cells cs ro)/\a.o+n<=cs.length/\vs=(cs.drop a.o).take n:=by
 unfold q0C at h;split at h
 ·rename_i cs ro hc;split at h
  ·cases h;exact⟨cs,ro,hc,‹_›,rfl⟩
  ·simp at h
 ·simp at h
theorem q2u (hm:MR P p m w) {a:AA} {ci:CI} (hp:p a.b=some ci) {n:Nat} {vs:List AV} (h:q0C m a n=some vs) :
  ∃vs',(∀w2:World,w2.heap=w.heap->(loadCells ⟨ci.c,a.o+ci.d,none⟩ n).run P w2=.ok ⟨vs'⟩ w2)/\VRs p vs vs'/\vs.length=n/\(∀j v,vs'[j]? = some v->w.cell? ((⟨ci.c,a.o+ci.d,none⟩:Addr).add j)=some v):=by
 obtain⟨cs,ro,hc,hle,rfl⟩:=q2m h;obtain⟨arr,el,fr,h1,h2,h3,h4⟩:=hm.live a.b cs ro ci hc hp;have hlen:((cs.drop a.o).take n).length=n:=by simp;omega
 have hex:∀j,j<n->∃v,arr[ci.d+(a.o+j)]? = some v/\VR p (cs.getD (a.o+j) .undef) v:=by
  intro j hj;have:cs[a.o+j]? = some (cs.getD (a.o+j) .undef):=by rw[xAe,xgq (by omega)];rfl
  exact h4 _ _ this
 let f:Nat->Value:=fun j=>(arr[ci.d+(a.o+j)]?).getD undef
 have hf:∀j,j<n->w.cell? ((⟨ci.c,a.o+ci.d,none⟩:Addr).add j)=some (f j):=by
  intro j hj;obtain⟨v,hv,_⟩:=hex j hj;rw[addr_add,q3D h1];simp only[f];rw[hv,show a.o+ci.d+j=ci.d+(a.o+j) by omega,hv];rfl
 refine⟨(List.range n).map f,fun w2 hw2=>run_loadCells w2 _ n f (fun j hj=>by rw[<-hf j hj];simp only[World.cell?,hw2]),VRs.z0U (by simp[hlen]) ?_,hlen,?_⟩
 ·intro i x hi;have hin:i<n:=by
   have:=(xgi.1 hi).1;omega
  obtain⟨v,hv,hr⟩:=hex i hin;refine⟨f i,by simp[hin],?_⟩;have hx:cs.getD (a.o+i) .undef=x:=by
   rw[xBw,xAb hin,xBu]at hi;rw[xAe,hi];rfl
  simp only[f,hv,xEt];rw[<-hx];exact hr
 ·intro j v hj;have hjn:j<n:=by have:=(xgi.1 hj).1;simpa using this
  simp[hjn]at hj;rw[<-hj];exact hf j hjn
theorem q9r (hm:MR P p m w) {t:TypeId} {x:AV} {x':Value} {v:AV} (hx:VR p x x') (h:q1H P t x m=some v):Gives P p (Instr.loadAt t x') w v:=by
 unfold q1H at h;split at h
 ·simp at h
 rename_i d hd;unfold Gives Instr.loadAt;split at h
 ·rename_i ha;obtain⟨n,hn,h⟩:=be h;unfold ldN at h;split at h
  ·rename_i a;obtain⟨vs,hv,rfl⟩:=xoe.1 h;simp only[VR]at hx;obtain⟨ci,hci,rfl⟩:=hx;obtain⟨vs',h1,h2,_⟩:=q2u (P:=P) hm hci hv;simp only[Sem.run_bind,Instr.sureAddr,Sem.run_pure,Result.andThen_ok,loadVar,q9K hd,ha,xAd,q1j hn,h1 w rfl];exact⟨_,rfl,by simp only[VR];exact⟨vs',rfl,h2⟩⟩
  ·simp at h
 ·rename_i ha;unfold ld1 at h;split at h
  ·rename_i a;split at h
   ·rename_i cs ro hc;simp only[VR]at hx;obtain⟨ci,hci,rfl⟩:=hx;obtain⟨cv,h1,h2⟩:=hm.cell hc hci h;simp only[Sem.run_bind,Instr.sureAddr,Sem.run_pure,Result.andThen_ok,loadVar,q9K hd,ha,xAh,xbq];rw[run_load,h1];exact⟨cv,rfl,h2⟩
   ·simp at h
  ·simp at h
theorem q7J:∀{cs:List AV} {cs':List Value} {bs:List UInt8},VRs p cs cs'->q41 cs=some bs->∀(pre:ByteArray),
  (forIn cs' pre (fun c (s : ByteArray) => (do let .int .u8 n := c | stuck "bytesToString: byte expected"
                                               pure (.yield (s.push (UInt8.ofNat n.toNat))):Sem (ForInStep ByteArray)))).run P w=.ok ⟨⟨pre.data.toList++bs⟩⟩ w
 |[],_,bs,h,hb,pre=>by
  simp only[VRs]at h;subst h;simp only[q41,xoi]at hb;subst hb;cases pre;rename_i d;cases d;simp
 |a::as,_,bs,h,hb,pre=>by
  simp only[VRs]at h;obtain⟨v,vs,rfl,h1,h2⟩:=h;cases a<;>first|(exact absurd hb (by simp[q41]))|skip
  rename_i k n;by_cases hk:k=.u8
  case neg=>exfalso;revert hb;cases k<;>first|(simp[q41];done)|exact absurd rfl hk
  subst hk;simp only[q41]at hb;obtain⟨bs',hb',rfl⟩:=xoe.1 hb;simp only[VR]at h1;subst h1;rw[List.forIn_cons];simp only[Sem.run_bind,Sem.run_pure,Result.andThen_ok];rw[q7J h2 hb' _];congr 2;simp[ByteArray.push]
theorem z6a (hm:MR P p m w) {src dst:TypeId} {x:AV} {x':Value} {v:AV} (hx:VR p x x') (hdst:P.underlying dst=some .string) (h:q7V P src x m=some v) :
  Gives P p (convert src dst x') w v:=by
 unfold q7V at h;split at h
 ·rename_i e hd;split at h
  ·rename_i he;unfold Gives;split at h
   ·cases h;simp only[VR]at hx;obtain⟨_,_,aa,rfl,_⟩:=hx;refine⟨.string .empty,?_,by simp only[VR];rfl⟩;cases aa<;>simp[loadCells,loadCellsFrom,convert,Sem.run_bind,q0l hd,q0l hdst,Result.andThen_ok,q0l he,Conv.bytesToString,Sem.run_pure]
   ·rename_i a sz len cap ex;obtain⟨bs,hb,rfl⟩:=xoe.1 h;obtain⟨cs,hcs,hbs⟩:=be hb;simp only[VR,SR]at hx;obtain⟨ci,off,cap',hci,rfl,hlc,hcc,_,_,hoff⟩:=hx;by_cases hl:len=0
    ·subst hl;obtain⟨_,_,_,_,rfl⟩:=q2m hcs;simp only[xBp,q41,xoi]at hbs;subst hbs;refine⟨.string .empty,?_,by simp only[VR];rfl⟩;simp only[convert,Sem.run_bind,q0l hd,q0l hdst,Result.andThen_ok,q0l he,Conv.bytesToString];simp[loadCells,loadCellsFrom]
    ·have e:off=a.o+ci.d:=hoff (by omega);subst e;obtain⟨vs',h1,h2,_⟩:=q2u (P:=P) hm hci hcs;refine⟨.string ⟨⟨bs⟩⟩,?_,by simp only[VR]⟩;simp only[convert,Sem.run_bind,q0l hd,q0l hdst,Result.andThen_ok,q0l he,Conv.bytesToString,h1 w rfl];have:=q7J (P:=P) (w:=w) h2 hbs .empty;simp only[List.forIn_toArray]at *
     erw [this]
     simp
   ·simp at h
  ·simp at h
 ·simp at h
theorem z7F (a b:List UInt8):((⟨⟨a⟩⟩:ByteArray)==⟨⟨b⟩⟩)=(a==b):=by
 have:(⟨a⟩:Array UInt8)=⟨b⟩↔a=b:=⟨fun h=>by injection h,fun h=>by rw[h]⟩
 show ((⟨a⟩:Array UInt8)==⟨b⟩)=(a==b);rw[xDl];simp
theorem q2O {d:TypeDesc} {k k':AV} {c c':Value} {b:Bool} (h:VR p k c) (h':VR p k' c') (e:q6d d k k'=some b):Instr.sameNow d c c'=some b:=by
 unfold q6d at e;split at e
 ·simp only[VR]at h h';subst h h';split at e
  ·simpa[Instr.sameNow]using e
  ·cases e
 ·simp only[VR]at h h';subst h h';split at e
  ·rename_i a b' _;simp only[Instr.sameNow];rw[<-e];congr 1;exact z7F a b'
  ·cases e
 ·cases e
theorem ER.perm:∀{l:List (AV×AV)} {ces:List MapEntry},ER p l ces->∀{es:List (AV×AV)},l.Perm es->∃ces',ces.Perm ces'/\ER p es ces':=by
 intro l ces h es hp;induction hp generalizing ces with
 |nil=>exact⟨ces,.refl _,h⟩
 |cons x _ ih=>
  obtain⟨k,v⟩:=x;simp only[ER]at h;obtain⟨e,es',rfl,h1,h2,h3⟩:=h;obtain⟨c',h4,h5⟩:=ih h3;exact⟨e::c',h4.cons _,by simp only[ER];exact⟨e,c',rfl,h1,h2,h5⟩⟩
 |swap x y l=>
  obtain⟨k,v⟩:=x;obtain⟨k2,v2⟩:=y;simp only[ER]at h;obtain⟨e,es',rfl,h1,h2,e2,es2,rfl,h3,h4,h5⟩:=h;exact⟨e2::e::es2,.swap _ _ _,by simp only[ER];exact⟨e2,_,rfl,h3,h4,e,_,rfl,h1,h2,h5⟩⟩
 |trans _ _ ih1 ih2=>
  obtain⟨c1,h1,h2⟩:=ih1 h;obtain⟨c2,h3,h4⟩:=ih2 h2;exact⟨c2,h1.trans h3,h4⟩
theorem q4C {d:TypeDesc} {k:AV} {c:Value} (hk:VR p k c):∀{l:List (AV×AV)} {ces:List MapEntry} {r:Option AV},ER p l ces->z2c d k l=some r->
  (∀e∈ces,∃b,Instr.sameNow d c e.key=some b)/\(r=none->∀e∈ces,Instr.sameNow d c e.key=some false)/\
  ∀v,r=some v->∃e1 x e2,ces=e1++x::e2/\(∀e∈e1,Instr.sameNow d c e.key=some false)/\(∀e∈e2,Instr.sameNow d c e.key=some false)/\Instr.sameNow d c x.key=some true/\VR p v x.val
 |[],ces,r,h,e=>by
  simp only[ER]at h;subst h;simp only[z2c,xoi]at e;subst e;simp
 |(k',v)::l,ces,r,h,e=>by
  simp only[ER]at h;obtain⟨x,xs,rfl,h1,h2,h3⟩:=h;simp only[z2c]at e;split at e
  ·rename_i e1 e2;cases e;obtain⟨g1,g2,_⟩:=q4C hk h3 e2;have hx:=q2O hk h1 e1;refine⟨fun y hy=>?_,by simp,fun v' hv=>?_⟩
   ·rcases xmk0.1 hy with rfl|hy
    ·exact⟨_,hx⟩
    ·exact g1 y hy
   ·cases hv;exact⟨[],x,xs,rfl,by simp,g2 rfl,hx,h2⟩
  ·rename_i r' e1 e2;cases e;obtain⟨g1,g2,g3⟩:=q4C hk h3 e2;have hx:=q2O hk h1 e1;refine⟨fun y hy=>?_,fun hr y hy=>?_,fun v' hv=>?_⟩
   ·rcases xmk0.1 hy with rfl|hy
    ·exact⟨_,hx⟩
    ·exact g1 y hy
   ·rcases xmk0.1 hy with rfl|hy
    ·exact hx
    ·exact g2 hr y hy
   ·obtain⟨l1,y,l2,rfl,f1,f2,f3⟩:=g3 v' hv;refine⟨x::l1,y,l2,rfl,fun z hz=>?_,f2,f3⟩
    rcases xmk0.1 hz with rfl|hz
    ·exact hx
    ·exact f1 z hz
  ·cases e
theorem q31 {d:TypeDesc} {c:Value}:∀{es:List MapEntry} {i:Nat},(∀e∈es,Instr.sameNow d c e.key=some false)->Instr.findNow d c es i=some none
 |[],_,_=>rfl
 |e::es,i,h=>by
  simp only[Instr.findNow,h e (by simp)];exact q31 fun x hx=>h x (by simp[hx])
theorem q33 {d:TypeDesc} {c:Value} {x:MapEntry} (hx:Instr.sameNow d c x.key=some true):∀{e1 e2:List MapEntry} {i:Nat},(∀e∈e1,Instr.sameNow d c e.key=some false)->Instr.findNow d c (e1++x::e2) i=some (some (i+e1.length,x.val))
 |[],e2,i,_=>by simp[Instr.findNow,hx]
 |e::e1,e2,i,h=>by
  simp only[xAy,Instr.findNow,h e (by simp)];rw[q33 hx fun x hx=>h x (by simp[hx])]
  simp only[xAi];congr 3;omega
theorem q7D {d:TypeDesc} {c:Value} {l1 l2:List MapEntry} {x:MapEntry} (h1:∀e∈l1,Instr.sameNow d c e.key=some false) (h2:∀e∈l2,Instr.sameNow d c e.key=some false) {ces:List MapEntry} (hp:ces.Perm (l1++x::l2)) :
  ∃e1 e2,ces=e1++x::e2/\(e1++e2).Perm (l1++l2)/\(∀e∈e1,Instr.sameNow d c e.key=some false)/\∀e∈e2,Instr.sameNow d c e.key=some false:=by
 have hx:x∈ces:=hp.mem_iff.2 (by simp);obtain⟨e1,e2,rfl⟩:=List.append_of_mem hx;have hp':(e1++e2).Perm (l1++l2):=by
  have a:(e1++x::e2).Perm (x::(e1++e2)):=List.perm_middle;have b:(l1++x::l2).Perm (x::(l1++l2)):=List.perm_middle;exact List.Perm.cons_inv (a.symm.trans (hp.trans b))
 refine⟨e1,e2,rfl,hp',fun e he=>?_,fun e he=>?_⟩
 ·have:=hp'.mem_iff.1 (List.mem_append_left e2 he);rcases xma.1 this with h|h
  ·exact h1 e h
  ·exact h2 e h
 ·have:=hp'.mem_iff.1 (List.mem_append_right e1 he);rcases xma.1 this with h|h
  ·exact h1 e h
  ·exact h2 e h
theorem q7w {d:TypeDesc} {k:AV} {b:Bool} {c:Value} (hk:VR p k c) (e:q6d d k k=some b):((∃i,d=.int i)\/d=.string)/\(∀cs,c≠.agg cs):=by
 unfold q6d at e;split at e
 ·simp only[VR]at hk;subst hk;split at e
  ·exact⟨.inl ⟨_,rfl⟩,by simp⟩
  ·cases e
 ·simp only[VR]at hk;subst hk;split at e
  ·exact⟨.inr rfl,by simp⟩
  ·cases e
 ·cases e
theorem run_checkKey {empty:Bool} {n:Nat} {t:TypeId} {v:Value} {d:TypeDesc} (hd:P.underlying t=some d) (h:(∃i,d=.int i)\/d=.string):(Instr.checkKey empty (n+1) t v).run P w=.ok () w:=by
 simp only[Instr.checkKey,Sem.run_bind,q0l hd,Result.andThen_ok];rcases h with ⟨i,rfl⟩|rfl<;>rfl
theorem run_findKey {t:TypeId} {c:Value} {d:TypeDesc} (hd:P.underlying t=some d) {es:List MapEntry} {r:Option (Nat×Value)} (h:Instr.findNow d c es 0=some r):(Instr.findKey t c es).run P w=.ok r w:=by
 simp only[Instr.findKey,Sem.run_bind,q0l hd,Result.andThen_ok,h,Sem.run_pure]
theorem z7I {t:TypeId} {v:AV} (h:zeroV P t=some v):∃z,(zeroValue t).run P w=.ok z w/\VR p v z:=by
 unfold zeroV at h;obtain⟨z,h1,h2⟩:=be h;obtain⟨i,h3,h4⟩:=be h1;refine⟨z,?_,j9y p h2⟩;simp only[zeroValue,Sem.run_bind,q8t h3,Result.andThen_ok,h4,Sem.run_pure]
theorem q0Y {r:Nat} {o:Obj} (h:w.heap[r]? = some o) (hn:∀c e f,o≠.cells c e f):(getObj r).run P w=.ok o w:=by
 cases o<;>first|exact absurd rfl (hn _ _ _)|simp[getObj,Sem.run,h]
theorem q1X {r:Nat} {o o':Obj} (h:w.heap[r]? = some o) (hn:∀c e f,o≠.cells c e f):(setObj r o').run P w=.ok () {w with heap:=w.heap.setIfInBounds r o'}:=by
 cases o<;>first|exact absurd rfl (hn _ _ _)|simp[setObj,Sem.run,h]
theorem q9t (hm:MR P p m w) {x:AV} {x':Value} (hx:VR p x x') {es:List (AV×AV)} (h:mapOf m x=some es) :
  ∃ces:Array MapEntry,(x'=.map none/\ces=#[]\/∃r clock,x'=.map (some r)/\w.heap[r]? = some (.map ces clock))/\∃l,l.Perm es/\ER p l ces.toList:=by
 unfold mapOf at h;split at h
 ·cases h;simp only[VR]at hx;subst hx;exact⟨#[],.inl ⟨rfl,rfl⟩,[],.refl _,by simp[ER]⟩
 ·rename_i b;split at h
  ·rename_i es' hb;cases h;simp only[VR]at hx;obtain⟨ci,h1,rfl⟩:=hx;obtain⟨o,h2,ces,clock,rfl,h3,_⟩:=hm.has b _ ci hb h1;exact⟨ces,.inr ⟨_,_,rfl,h2⟩,h3⟩
  ·cases h
 ·cases h
theorem z15 (hm:MR P p m w) {t:TypeId} {x k:AV} {x' k':Value} {ok:Bool} {v:AV} (hx:VR p x x') (hk:VR p k k') (h:q5c P t x k ok m=some v):Gives P p (Instr.lookup t x' k' ok) w v:=by
 unfold q5c at h;split at h
 ·rename_i key elem hd;obtain⟨d,h1,h⟩:=be h;obtain⟨es,h2,h⟩:=be h;obtain⟨bb,h3,h⟩:=be h;obtain⟨r,h4,h⟩:=be h;obtain⟨ces,h5,l,h6,h7⟩:=q9t hm hx h2;obtain⟨ces',h8,h9⟩:=h7.perm h6;have hkind:=(q7w hk h3).1;obtain⟨g1,g2,g3⟩:=q4C hk h9 h4;have fin:∀(r':Option (Nat×Value)),Instr.findNow d k' ces.toList 0=some r'->∀cv:Value×Bool,(match r' with
    |some (_,v)=>(pure (v,true):Sem (Value×Bool))
    |none=>do pure (<-zeroValue elem,false)).run P w=.ok cv w->(Instr.lookup t x' k' ok).run P w=.ok (if ok then .tuple #[cv.1,.bool cv.2] else cv.1) w:=by
   intro r' hr cv hcv;unfold Instr.lookup;rcases h5 with ⟨rfl,rfl⟩|⟨r0,clock,rfl,h5⟩
   ·simp only[Sem.run_bind,q0l hd,Result.andThen_ok,Sem.run_pure,run_checkKey h1 hkind,run_findKey h1 hr];cases r' with
    |none=>
     simp only[Sem.run_bind]at hcv⊢;cases hz:(zeroValue elem).run P w with
     |ok z w2=>rw[hz]at hcv;simp only[Result.andThen_ok,Sem.run_pure]at hcv⊢;cases hcv;simp
     |halt x w2=>rw[hz]at hcv;simp at hcv
    |some y=>simp only[Sem.run_pure]at hcv;cases hcv;simp
   ·simp only[Sem.run_bind,q0l hd,Result.andThen_ok,q0Y h5 (by simp),Sem.run_pure,run_checkKey h1 hkind,run_findKey h1 hr];cases r' with
    |none=>
     simp only[Sem.run_bind]at hcv⊢;cases hz:(zeroValue elem).run P w with
     |ok z w2=>rw[hz]at hcv;simp only[Result.andThen_ok,Sem.run_pure]at hcv⊢;cases hcv;simp
     |halt x w2=>rw[hz]at hcv;simp at hcv
    |some y=>simp only[Sem.run_pure]at hcv;cases hcv;simp
  cases r with
  |none=>
   have hn:Instr.findNow d k' ces.toList 0=some none:=q31 fun e he=>g2 rfl e (h8.mem_iff.1 he)
   obtain⟨z0,hz,rfl⟩:=xoe.1 h;obtain⟨z,h10,h11⟩:=z7I (p:=p) (w:=w) hz;refine⟨_,fin none hn (z,false) (by simp[h10]),?_⟩;cases ok
   ·simpa using h11
   ·simp only[xAd,VR,VRs];exact⟨_,rfl,z,_,rfl,h11,.bool false,[],rfl,rfl,rfl⟩
  |some u=>
   obtain⟨l1,y,l2,rfl,f1,f2,f3,f4⟩:=g3 u rfl;obtain⟨e1,e2,he,_,q1,_⟩:=q7D f1 f2 h8;have hs:Instr.findNow d k' ces.toList 0=some (some (0+e1.length,y.val)):=by rw[he];exact q33 f3 q1
   cases h;refine⟨_,fin _ hs (y.val,true) rfl,?_⟩;cases ok
   ·simpa using f4
   ·simp only[xAd,VR,VRs];exact⟨_,rfl,y.val,_,rfl,f4,.bool true,[],rfl,rfl,rfl⟩
 ·cases h
theorem j04 (hm:MR P p m w) {t:TypeId} {x:AV} {x':Value} {v:AV} (hx:VR p x x') (h:b4M P t x m=some v) (ty:TypeId):Gives P p (Builtin.len_ #[t] ty #[x']) w v:=by
 unfold b4M at h;split at h
 ·rename_i key elem hd;obtain⟨es,h2,rfl⟩:=xoe.1 h;obtain⟨ces,h5,l,h6,h7⟩:=q9t hm hx h2;have hl:∀{l:List (AV×AV)} {c:List MapEntry},ER p l c->c.length=l.length:=by
   intro l;induction l with
   |nil=>intro c h;simp only[ER]at h;simp[h]
   |cons x l ih=>
    intro c h;obtain⟨k,v⟩:=x;simp only[ER]at h;obtain⟨e,es',rfl,_,_,h3⟩:=h;simp[ih h3]
  have hl2:ces.size=es.length:=by rw[<-h6.length_eq,<-hl h7];simp
  rcases h5 with ⟨rfl,rfl⟩|⟨r0,clock,rfl,h5⟩
  ·have:es.length=0:=by simpa using hl2.symm
   exact⟨.int .i64 0,by simp[Builtin.len_,q0l hd,goInt],by simp[VR,this]⟩
  ·exact⟨.int .i64 ces.size,by simp[Builtin.len_,q0l hd,q0Y h5 (by simp),goInt],by simp[VR,hl2]⟩
 ·cases h
theorem z4Z (hm:MR P p m w) {c b:Nat} {left es:List (AV×AV)} {cur:Option (AV×AV)} {ci:CI} (h1:m.get c=some (.iter b left cur)) (h2:m.get b=some (.rmap es c)) (hp:p c=some ci) :
  ∃bi ces clock seen last,w.heap[ci.c]? = some (.mapIter (some bi.c) clock seen last)/\p b=some bi/\ci.g=some (ces,clock)/\ci.d=0/\clock<=last/\(∃l,l.Perm left/\ER p l (ces.toList.filter fun e=>!seen.contains e.born))/\
   (∀e,cur=some e->last=clock/\∃ce∈ces.toList,seen.back? = some ce.born/\VR p e.1 ce.key/\VR p e.2 ce.val)/\
   w.heap[bi.c]? = some (.map ces clock)/\(∃l,l.Perm es/\ER p l ces.toList)/\(ces.toList.map (·.born)).Nodup/\∀e∈ces.toList,e.born<clock:=by
 obtain⟨o,g1,bi,ces,clock,seen,last,rfl,g2,g3,g4,g5,g6,g7⟩:=hm.has c _ ci h1 hp;obtain⟨o,k1,ces',clock',rfl,k2,⟨k3,k4⟩,cc,k5,k6⟩:=hm.has b _ bi h2 g2;rw[hp]at k5;cases k5;rw[g3]at k6;cases k6;exact⟨bi,ces,clock,seen,last,g1,g2,g3,g4,g5,g6,g7,k1,k2,k3,k4⟩
theorem find_born (e:MapEntry):∀(l:List MapEntry),(l.map (·.born)).Nodup->e∈l->l.find? (·.born==e.born)=some e
 |x::l,hn,he=>by
  have hn':x.born∉l.map (·.born)/\(l.map (·.born)).Nodup:=List.nodup_cons.1 hn;rcases xmk0.1 he with rfl|h
  ·simp
  ·have hx:(x.born==e.born)=false:=by
    cases hc:x.born==e.born with
    |false=>rfl
    |true=>exact absurd (by rw[beq_iff_eq.1 hc];exact xBr.2 ⟨e,h,rfl⟩) hn'.1
   rw[List.find?_cons,hx];exact find_born e l hn'.2 h
theorem z3H (hm:MR P p m w) {x:AV} {x':Value} {v:AV} (hx:VR p x x') (h:z3G x m=some v):Gives P p (Instr.entry x') w v:=by
 unfold z3G at h;split at h
 ·rename_i a;split at h
  ·rename_i b left e ha h1;split at h
   ·rename_i es c h2;split at h
    ·rename_i hc;subst hc;cases h;simp only[VR]at hx;obtain⟨ci,g1,rfl⟩:=hx;obtain⟨bi,ces,clock,seen,last,o1,o2,o3,o4,o5,o6,o7,o8,o9,o10,o11⟩:=z4Z hm h1 h2 g1;obtain⟨rfl,ce,q1,q2,q3,q4⟩:=o7 e rfl;refine⟨.tuple #[ce.key,ce.val],?_,by simp only[VR,VRs];exact⟨_,rfl,ce.key,_,rfl,q3,ce.val,[],rfl,q4,rfl⟩⟩;have hf:ces.find? (·.born==ce.born)=some ce:=by rw[<-Array.find?_toList];exact find_born ce ces.toList o10 q1
     rw[ha,o4];simp only[Instr.entry,Sem.run_bind,q0Y o1 (by simp),Result.andThen_ok,q2,q0Y o8 (by simp),bne_self_eq_false,xbq,xAh,hf];rfl
    ·cases h
   ·cases h
  ·cases h
 ·cases h
theorem z01 (hm:MR P p m w) {o:Oper} {t:List AV} {a:Act} (ht:VRs p t a.tmps.toList) (hc:cls P o.op=.r) {v:AV} (h:q1r P o.op t m=some v) :
  ∃cv,(execOp a.eval o).run P w=.ok (.value cv) w/\VR p v cv:=by
 have E:∀{x:Operand} {v:AV},ev P t x=some v->VR p v (a.eval x):=fun h=>q29 ht hm.q23 h
 have ho:∃op,o.op=op:=⟨_,rfl⟩;obtain⟨op,ho⟩:=ho;rw[ho]at h hc;unfold q1r at h;split at h
 ·obtain⟨x,h1,h⟩:=be h;simp only[execOp,ho];exact(q9r hm (E h1) h).value
 ·rename_i src dst xo;obtain⟨x,h1,h⟩:=be h;have hdst:P.underlying dst=some .string:=by
   simp only[cls]at hc;split at hc
   ·assumption
   ·cases hc
   ·cases hc
  simp only[execOp,ho];exact(z6a hm (E h1) hdst h).value
 ·obtain⟨x,h1,h⟩:=be h;obtain⟨k,h2,h⟩:=be h;simp only[execOp,ho];exact(z15 hm (E h1) (E h2) h).value
 ·obtain⟨x,h1,h⟩:=be h;simp only[execOp,ho];exact(z3H hm (E h1) h).value
 ·obtain⟨x,h1,h⟩:=be h;simp only[execOp,ho];rw[q1q];exact(j04 hm (E h1) h o.type).value
 ·simp at h
theorem q4H (b:Nat):∀(vs:List Value) (o:Nat) (w:World) {arr:Array Value} {el:TypeId} {fr:Nat×Nat},w.heap[b]? = some (.cells arr el fr)->o+vs.length<=arr.size->
  ∃arr',(w.setCells b o vs).heap[b]? = some (.cells arr' el fr)/\arr'.size=arr.size/\(∀i,arr'[i]? = if o<=i/\i<o+vs.length then vs[i-o]? else arr[i]?)/\
   (∀c,c≠b->(w.setCells b o vs).heap[c]? = w.heap[c]?)/\(w.setCells b o vs).heap.size=w.heap.size/\(w.setCells b o vs).os=w.os/\(w.setCells b o vs).output=w.output/\(w.setCells b o vs).tape=w.tape
 |[],o,w,arr,el,fr,h,_=>⟨arr,h,rfl,fun i=>by rw[xAa (by simp only[xAv];omega)],fun _ _=>rfl,rfl,rfl,rfl,rfl⟩
 |v::vs,o,w,arr,el,fr,h,hl=>by
  simp only[xAi]at hl;have h1:(w.setCell ⟨b,o,none⟩ v).heap[b]? = some (.cells (arr.setIfInBounds o v) el fr):=by
   simp only[World.setCell,Array.getElem?_modify,xAd,h];rfl
  obtain⟨arr',e1,e2,e3,e4,e5,e6,e7,e8⟩:=q4H b vs (o+1) (w.setCell ⟨b,o,none⟩ v) h1 (by simp;omega);refine⟨arr',e1,by rw[e2];simp,fun i=>?_,fun c hc=>?_,?_,e6.trans rfl,e7.trans rfl,e8.trans rfl⟩
  ·rw[e3 i];simp only[xAi];by_cases hi:i=o
   ·subst hi;rw[xAa (by omega),xAb (by omega)];simp[Array.getElem?_setIfInBounds_self];try omega
   ·by_cases hr:o+1<=i/\i<o+1+vs.length
    ·rw[xAb hr,xAb (by omega)];obtain⟨j,rfl⟩:∃j,i=o+1+j:=⟨i-(o+1),by omega⟩;rw[show o+1+j-(o+1)=j by omega,show o+1+j-o=j+1 by omega,xgs]
    ·rw[xAa hr,xAa (by omega),xBn (by omega)]
  ·rw[World.setCells,e4 c hc];simp only[World.setCell,Array.getElem?_modify];rw[xAa (fun e=>hc e.symm)]
  ·rw[World.setCells,e5];simp[World.setCell]
theorem q54 {c off:Nat} {vs:List Value} {arr:Array Value} {el:TypeId} {fr:Nat×Nat} (h:w.heap[c]? = some (.cells arr el fr)) (hl:off+vs.length<=arr.size)
  (hf:∀i,¬(fr.1<=i/\i<fr.2)) (h1:∀v∈vs,v.oneCell'=true):(storeCells ⟨c,off,none⟩ vs).run P w=.ok () (w.setCells c off vs):=by
 have:=run_storeCells_cells (P:=P) c off vs 0 w (fun j hj=>by
   rw[q3D h];simp;omega) (fun j hj=>by
   simp only[World.frozen?,h];have:=hf (off+0+j);simpa using this) h1
 simpa using this
theorem Sim.turn (h:MR P p m w) {b:Nat} {cs cs':List AV} {ci:CI} (hb:m.get b=some (.cells cs false)) (hp:p b=some ci) {w':World} {arr:Array Value} {el:TypeId} {fr:Nat×Nat}
  (hw:w'.heap[ci.c]? = some (.cells arr el fr)) (hn:arr.size=ci.n) (hf:∀i,¬(fr.1<=i/\i<fr.2))
  (hcs:∀(i:Nat) a,cs'[i]? = some a->∃v,arr[ci.d+i]? = some v/\VR p a v) (ho:∀c,c≠ci.c->w'.heap[c]? = w.heap[c]?) (hs:w'.heap.size=w.heap.size)
  (e1:w'.os=w.os) (e2:w'.output=w.output) (e3:w'.tape=w.tape):Sim P p m w p (m.put b (some (.cells cs' false))) w':=by
 exact Sim.z2E h hb (by simp) hp hw ho hs e1 e2 e3 fun x hx=>by cases hx;exact⟨arr,el,fr,rfl,hn,fun _=>hf,hcs⟩
theorem Sim.kill (h:MR P p m w) {b:Nat} {ci:CI} {cs:List AV} (hb:m.get b=some (.cells cs false)) (hp:p b=some ci):Sim P p m w p (m.put b none) w:=by
 obtain⟨o,ho,_⟩:=h.has b _ ci hb hp;exact Sim.z2E h hb (by simp) hp ho (fun _ _=>rfl) rfl rfl rfl rfl (by simp)
end
end
section
section
variable {P:Program} {p:Phi} {m:Mem} {w:World}
theorem q2p {a:AA} {vs:List AV} {m':Mem} (h:q1l m a vs=some m'):∃cs,m.get a.b=some (.cells cs false)/\a.o+vs.length<=cs.length/\
  m'=m.put a.b (some (.cells (cs.take a.o++vs++cs.drop (a.o+vs.length)) false)):=by
 unfold q1l at h;split at h
 ·rename_i cs hc;split at h
  ·cases h;exact⟨cs,hc,‹_›,rfl⟩
  ·simp at h
 ·simp at h
theorem z06 {α:Type} (cs vs:List α) (o i:Nat) (h:o+vs.length<=cs.length):(cs.take o++vs++cs.drop (o+vs.length))[i]? = if o<=i/\i<o+vs.length then vs[i-o]? else cs[i]?:=by
 by_cases h1:i<o
 ·rw[xAa (by omega),xAg,xBj (by simp;omega),xBw,xAb h1]
 ·by_cases h2:i<o+vs.length
  ·rw[xAb (by omega),xAg,xBl (by simp;omega),xBj (by simp;omega)];congr 1;simp;omega
  ·rw[xAa (by omega),xBl (by simp;omega),xBu];congr 1;simp;omega
theorem q2G (hm:MR P p m w) {a:AA} {ci:CI} (hp:p a.b=some ci) {vs:List AV} {vs':List Value} (hv:VRs p vs vs') (h1:vs.all AV.one=true) {m':Mem} (h:q1l m a vs=some m') :
  ∃w',(storeCells ⟨ci.c,a.o+ci.d,none⟩ vs').run P w=.ok () w'/\Sim P p m w p m' w':=by
 obtain⟨cs,hc,hle,rfl⟩:=q2p h;obtain⟨arr,el,fr,e1,e2,e3,e4⟩:=hm.live a.b cs false ci hc hp;have e3:=e3 rfl;have hlen:=hv.length;have hb:ci.d+cs.length<=arr.size\/cs.length=0:=by
  by_cases h0:cs.length=0
  ·exact .inr h0
  ·left;obtain⟨v,hv',_⟩:=e4 (cs.length-1) (cs[cs.length-1]'(by omega)) (xgq (by omega));have:=(xBb.1 hv').1;omega
 by_cases h0:vs.length=0
 ·have hvs:vs=[]:=xBc.1 h0;subst hvs;simp only[VRs]at hv;subst hv;refine⟨w,rfl,Sim.turn hm hc hp e1 e2 e3 (fun i x hi=>?_) (fun _ _=>rfl) rfl rfl rfl rfl⟩
  rw[z06 _ _ _ _ hle,xAa (by simp only[xAv];omega)]at hi;exact e4 i x hi
 ·have hfit:a.o+ci.d+vs'.length<=arr.size:=by rcases hb with hb|hb<;>omega
  obtain⟨arr',f1,f2,f3,f4,f5,f6,f7,f8⟩:=q4H ci.c vs' (a.o+ci.d) w e1 hfit;refine⟨_,q54 e1 hfit e3 (hv.ones h1),Sim.turn hm hc hp f1 (by omega) e3 (fun i x hi=>?_) f4 f5 f6 f7 f8⟩
  rw[z06 _ _ _ _ hle]at hi;rw[f3];by_cases hr:a.o<=i/\i<a.o+vs.length
  ·rw[xAb hr]at hi;obtain⟨v,h5,h6⟩:=hv.get hi;refine⟨v,?_,h6⟩;rw[xAb (by omega),<-h5];congr 1;omega
  ·rw[xAa hr]at hi;obtain⟨v,h5,h6⟩:=e4 i x hi;refine⟨v,?_,h6⟩;rw[xAa (by omega)];exact h5
theorem a0v (hm:MR P p m w) {t:TypeId} {x y:AV} {x' y':Value} (hx:VR p x x') (hy:VR p y y') {n:Nat} (hn:szT P t=some n) {m':Mem} (h:stV m x y n=some m') :
  ∃w',(Instr.storeAt t x' y').run P w=.ok () w'/\Sim P p m w p m' w':=by
 unfold stV at h;split at h
 ·rename_i a;split at h
  ·rename_i cs hc;split at h
   ·rename_i hl;simp only[VR]at hx;obtain⟨ci,hci,rfl⟩:=hx;obtain⟨vs,h1,h2,h3⟩:=hy.cells hc;obtain⟨w',h4,h5⟩:=q2G (P:=P) hm hci h2 h3 h;refine⟨w',?_,h5⟩;have:=h2.length;simp only[Instr.storeAt,Sem.run_bind,Instr.sureAddr,Sem.run_pure,Result.andThen_ok,storeVar,q1j hn,h1];rw[Sem.run_ite,xAa (by simp;omega)];exact h4
   ·simp at h
  ·simp at h
 ·simp at h
theorem Sim.j0m (h:MR P p m w) (_hG:P.globals.size<=m.next) {b:Nat} {cs cs':List AV} {ci:CI} (hb:m.get b=some (.cells cs false)) (hp:p b=some ci) (hfree:p m.next=none) {w':World} {arr:Array Value} {el:TypeId} {fr:Nat×Nat} {d:Nat}
  (hw:w'.heap[ci.c]? = some (.cells arr el fr)) (hn:arr.size=ci.n) (hf:∀i,¬(fr.1<=i/\i<fr.2))
  (hcs:∀(i:Nat) a,cs'[i]? = some a->∃v,arr[d+i]? = some v/\VR p a v) (ho:∀c,c≠ci.c->w'.heap[c]? = w.heap[c]?) (hs:w'.heap.size=w.heap.size)
  (e1:w'.os=w.os) (e2:w'.output=w.output) (e3:w'.tape=w.tape) :
  Sim P p m w (fun x=>if x=m.next then some ⟨ci.c,d,ci.n,none⟩ else p x) ((m.put b none).alloc cs') w':=by
 have hbl:=Mem.q0u hb;have hle:p.le (fun x=>if x=m.next then some ⟨ci.c,d,ci.n,none⟩ else p x):=by
  intro x c hx;by_cases e:x=m.next
  ·subst e;rw[hfree]at hx;simp at hx
  ·simp[e,hx]
 have hget:∀x,((m.put b none).alloc cs').get x=if x=m.next then some (.cells cs' false) else if x=b then none else m.get x:=by
  intro x;rw[Mem.q3I,Mem.q39,Mem.get_put];by_cases e:x=m.next
  ·simp[e]
  ·rw[xAa e,xAa e];by_cases e2:x=b
   ·rw[xAb e2,xAb ⟨e2,hbl⟩]
   ·rw[xAa e2,xAa (fun y=>e2 y.1)]
 have hro:∀b2 cs2 ci2,m.get b2=some (.cells cs2 true)->p b2=some ci2->b2≠b/\ci2.c≠ci.c:=by
  intro b2 cs2 ci2 h1 h2;have hne:b2≠b:=by rintro rfl;rw[hb]at h1;cases h1
  refine⟨hne,fun ec=>?_⟩
  rcases h.inj b2 ci2 b ci (by rw[h1];rfl) h2 hp ec with e'|⟨_,e'⟩
  ·exact hne e'
  ·rw[hb]at e';simp at e'
 refine⟨hle,?_,by simp,⟨?_,?_,?_,?_⟩,?_,?_,?_,?_,fun b2 cs2 ci2 h1 h2=>⟨by rw[hget,xAa (by have:=Mem.q0u h1;omega),xAa (hro b2 cs2 ci2 h1 h2).1];exact h1,ho _ (hro b2 cs2 ci2 h1 h2).2⟩,by omega,e1,e2,e3⟩
 ·intro x hx;have:x≠m.next:=by rintro rfl;simp at hx
  simp[this]
 ·intro b2 v2 ci2 h1 h2;rw[hget]at h1;by_cases e:b2=m.next
  ·simp only[e,xAd]at h1 h2;cases h1;cases h2;exact⟨_,hw,arr,el,fr,rfl,hn,fun _=>hf,fun i a hi=>let ⟨v,x,y⟩:=hcs i a hi;⟨v,x,y.mono hle⟩⟩
  ·rw[xAa e]at h1;simp only[xAa e]at h2;split at h1
   ·simp at h1
   ·rename_i hbb;have hne:ci2.c≠ci.c:=by
     intro ec;rcases h.inj b2 ci2 b ci (by rw[h1];rfl) h2 hp ec with e'|⟨_,e'⟩
     ·exact hbb e'
     ·rw[hb]at e';simp at e'
    obtain⟨o,h3,h4⟩:=h.has b2 v2 ci2 h1 h2;exact⟨o,by rw[ho _ hne];exact h3,h4.mono hle⟩
 ·intro b1 c1 b2 c2 h1 h2 h3 h4;rw[hget]at h1;by_cases x1:b1=m.next
  ·simp only[x1,xAd]at h2;cases h2;by_cases x2:b2=m.next
   ·exact .inl (x1.trans x2.symm)
   ·simp only[xAa x2]at h3;right;rcases h.inj b ci b2 c2 (by rw[hb];rfl) hp h3 h4 with e|⟨e,e'⟩
    ·subst e;refine⟨by simp;omega,?_⟩;rw[hget,xAa (by omega),xAb rfl]
    ·refine⟨by simp;omega,?_⟩;rw[hget,xAa x2];split
     ·rfl
     ·exact e'
  ·rw[xAa x1]at h1;simp only[xAa x1]at h2;split at h1
   ·simp at h1
   ·rename_i hbb;by_cases x2:b2=m.next
    ·simp only[x2,xAd]at h3;cases h3;rcases h.inj b1 c1 b ci h1 h2 hp h4 with e|⟨e,e'⟩
     ·exact absurd e hbb
     ·rw[hb]at e';simp at e'
    ·simp only[xAa x2]at h3;rcases h.inj b1 c1 b2 c2 h1 h2 h3 h4 with e|⟨e,e'⟩
     ·exact .inl e
     ·right;refine⟨by simp;omega,?_⟩;rw[hget,xAa x2];split
      ·rfl
      ·exact e'
 ·intro x c hx;rw[hs];split at hx
  ·cases hx;exact h.bnd b ci hp
  ·exact h.bnd x c hx
 ·intro g hg;obtain⟨n,hn⟩:=h.q23 g hg;exact⟨n,hle _ _ hn⟩
 ·intro x hx1 hx2;rw[hget,xAa (by omega),xAa];rintro rfl;rw[hp]at hx2;simp at hx2
 ·intro x hx1 hx2;rw[hget,xAa (by omega)];split
  ·rfl
  ·exact hx2
 ·intro c hc hn';exact ho c fun e=>hn' b ci (by rw[hb];rfl) hp e.symm
 ·intro x c h1 h2 h3;simp at h2;have:x=m.next:=by omega
  simp only[this,xAd]at h3;cases h3;right;exact⟨b,ci,by rw[hb];rfl,hp,rfl⟩
theorem z08 (hm:MR P p m w) {sz:Nat} {x:AV} {x':Value} (hx:VR p x x') {n:Nat} {vs:List AV} (h:q5Q sz x m=some (n,vs)) :
  (∀w2:World,(Builtin.lenOf x').run P w2=.ok n w2)/\vs.length=n*sz/\
  ∃vs',VRs p vs vs'/\∀k,k<=n->∀w2:World,w2.heap=w.heap->(Builtin.firstCells sz k x').run P w2=.ok ⟨vs'.take (k*sz)⟩ w2:=by
 unfold q5Q at h;split at h
 ·cases h;simp only[VR]at hx;obtain⟨_,_,aa,rfl,_⟩:=hx;refine⟨fun _=>rfl,by simp,[],by simp[VRs],fun k hk w2 _=>?_⟩
  have:k=0:=by omega
  subst this;cases aa<;>simp[Builtin.firstCells,loadCells,loadCellsFrom]
 ·rename_i a s len cap ex;split at h
  ·obtain⟨cs,hcs,e⟩:=xoe.1 h;cases e;simp only[VR,SR]at hx;obtain⟨ci,off,cap',hci,rfl,hlc,hcc,_,_,hoff⟩:=hx;obtain⟨vs',h1,h2,h3,h4⟩:=q2u (P:=P) hm hci hcs;refine⟨fun _=>rfl,h3,vs',h2,fun k hk w2 hw2=>?_⟩
   by_cases hl:n=0
   ·subst hl;have:k=0:=by omega
    subst this;simp[Builtin.firstCells,loadCells,loadCellsFrom]
   ·have e:off=a.o+ci.d:=hoff (by omega);subst e;have hlen:=h2.length;have hk2:k*sz<=n*sz:=xAo _ hk;have:=run_firstCells_some (P:=P) w2 sz k ⟨ci.c,a.o+ci.d,none⟩ n cap' (vs'.take (k*sz)) (by simp;omega) (fun j v hj=>by
     rw[<-h4 j v (by rw[xBw]at hj;split at hj<;>first|exact hj|simp at hj)]
     simp only[World.cell?,hw2])
    simpa using this
  ·simp at h
 ·rename_i s;split at h
  case isFalse=>simp at h
  rename_i hs1;subst hs1;cases h;simp only[VR]at hx;subst hx;refine⟨fun _=>rfl,by simp,s.map fun c=>.int .u8 c.toNat,?_,fun k hk w2 _=>?_⟩
  ·refine VRs.z0U (by simp) fun i a hi=>?_
   simp only[xBi,xoe]at hi⊢;obtain⟨c,hc,rfl⟩:=hi;exact⟨_,⟨c,hc,rfl⟩,by simp[VR]⟩
  ·simp only[Builtin.firstCells,Sem.run_pure];congr 1;apply xEy;rw[show (ByteArray.mk ⟨s⟩)=ByteArray.mk s.toArray from rfl,ByteArray.extract_mk];simp[List.map_take]
 ·simp at h
theorem flat_get {α:Type} (zs:List α):∀(k i:Nat),i<k*zs.length->(List.replicate k zs).flatten[i]? = zs[i % zs.length]?
 | 0,i,h=>by simp at h
 |k+1,i,h=>by
  rw[List.replicate_succ,xCb];by_cases hi:i<zs.length
  ·rw[xBj hi,xDx hi]
  ·rw[xBl (by omega),flat_get zs k (i-zs.length) (by rw[xCs]at h;omega)];congr 1;have hle:zs.length<=i:=by omega
   conv=>rhs;rw[<-Nat.sub_add_cancel hle]
   simp
theorem q8y (zs:List Value) (k:Nat):(Array.range (k*zs.length)).map ((⟨zs⟩:Array Value)[· % zs.length]!)=⟨(List.replicate k zs).flatten⟩:=by
 apply xEy;apply xCv;intro i;simp only[Array.toList_map,xBi,Array.toList_range];by_cases hi:i<k*zs.length
 ·rw[flat_get zs k i hi];have h0:0<zs.length:=by
   rcases Nat.eq_zero_or_pos zs.length with h|h
   ·rw[h]at hi;simp at hi
   ·exact h
  have hm:i % zs.length<zs.length:=xEv _ h0;rw[List.getElem?_range hi];simp[hm]
 ·rw[xAu (by simpa using hi),xAu (by simp;omega)];rfl
theorem z3K {α:Type} (y:α) (e2:List α):∀e1:List α,(e1++y::e2).eraseIdx e1.length=e1++e2
 |[]=>rfl
 |x::e1=>by simp[z3K y e2 e1]
theorem ER.j9z:∀{ces es:List MapEntry},ces.Perm es->∀{l:List (AV×AV)},ER p l ces->∃l',l'.Perm l/\ER p l' es:=by
 intro ces es hp;induction hp with
 |nil=>intro l h;exact⟨l,.refl _,h⟩
 |cons x _ ih=>
  intro l h;cases l with
  |nil=>simp[ER]at h
  |cons y l=>
   obtain⟨k,v⟩:=y;simp only[ER]at h;obtain⟨e,es',he,h1,h2,h3⟩:=h;cases he;obtain⟨l',h4,h5⟩:=ih h3;exact⟨(k,v)::l',h4.cons _,by simp only[ER];exact⟨_,_,rfl,h1,h2,h5⟩⟩
 |swap x y _=>
  intro l h;cases l with
  |nil=>simp[ER]at h
  |cons z l=>
   obtain⟨k,v⟩:=z;simp only[ER]at h;obtain⟨e,es',he,h1,h2,h3⟩:=h;cases he;cases l with
   |nil=>simp[ER]at h3
   |cons z l=>
    obtain⟨k2,v2⟩:=z;simp only[ER]at h3;obtain⟨e2,es2,he,h4,h5,h6⟩:=h3;cases he;exact⟨(k2,v2)::(k,v)::l,.swap _ _ _,by simp only[ER];exact⟨_,_,rfl,h4,h5,_,_,rfl,h1,h2,h6⟩⟩
 |trans _ _ ih1 ih2=>
  intro l h;obtain⟨l1,h1,h2⟩:=ih1 h;obtain⟨l2,h3,h4⟩:=ih2 h2;exact⟨l2,h3.trans h1,h4⟩
theorem z0R {d:TypeDesc} {k v:AV} {c cv:Value} (hk:VR p k c) (hv:VR p v cv):∀{l:List (AV×AV)} {ces:List MapEntry} {u:AV},ER p l ces->z2c d k l=some (some u)->
  ∃e1 x e2,ces=e1++x::e2/\(∀e∈e1,Instr.sameNow d c e.key=some false)/\(∀e∈e2,Instr.sameNow d c e.key=some false)/\Instr.sameNow d c x.key=some true/\ER p (b0L d k v l) (e1++{x with key:=c,val:=cv}::e2)
 |[],ces,u,h,e=>by simp[z2c]at e
 |(k',v')::l,ces,u,h,e=>by
  simp only[ER]at h;obtain⟨x,xs,rfl,h1,h2,h3⟩:=h;simp only[z2c]at e;split at e
  ·rename_i e1 e2;obtain⟨_,g2,_⟩:=q4C hk h3 e2;refine⟨[],x,xs,rfl,by simp,g2 rfl,q2O hk h1 e1,?_⟩;have hrest:∀{l:List (AV×AV)} ,z2c d k l=some none->b0L d k v l=l:=by
    intro l;induction l with
    |nil=>intro _;rfl
    |cons y l ih=>
     obtain⟨k2,v2⟩:=y;intro h;simp only[z2c]at h;split at h
     ·cases h
     ·rename_i f1 f2;cases h;have:=ih f2;unfold b0L at this⊢;simp only[xBf,f1];rw[this];simp
     ·cases h
   simp only[xAm,b0L,xBf,e1,xAd,ER];refine⟨_,_,rfl,hk,hv,?_⟩;have:=hrest e2;unfold b0L at this;rw[this];exact h3
  ·rename_i r' e1 e2;cases e;obtain⟨l1,y,l2,rfl,f1,f2,f3,f4⟩:=z0R hk hv h3 e2;refine⟨x::l1,y,l2,rfl,fun z hz=>?_,f2,f3,?_⟩
   ·rcases xmk0.1 hz with rfl|hz
    ·exact q2O hk h1 e1
    ·exact f1 z hz
   ·have:(some false:Option Bool)=some true↔False:=by simp
    simp only[xAy,b0L,xBf,e1,this,xAh,ER];exact⟨_,_,rfl,h1,h2,f4⟩
  ·cases e
theorem z0N {d:TypeDesc} {k:AV} {c:Value} (hk:VR p k c):∀{l:List (AV×AV)} {ces:List MapEntry} {u:AV},ER p l ces->z2c d k l=some (some u)->
  ∃e1 x e2,ces=e1++x::e2/\(∀e∈e1,Instr.sameNow d c e.key=some false)/\(∀e∈e2,Instr.sameNow d c e.key=some false)/\Instr.sameNow d c x.key=some true/\ER p (l.filter fun e=>!(q6d d k e.1==some true)) (e1++e2)
 |[],ces,u,h,e=>by simp[z2c]at e
 |(k',v')::l,ces,u,h,e=>by
  simp only[ER]at h;obtain⟨x,xs,rfl,h1,h2,h3⟩:=h;simp only[z2c]at e;split at e
  ·rename_i e1 e2;obtain⟨_,g2,_⟩:=q4C hk h3 e2;refine⟨[],x,xs,rfl,by simp,g2 rfl,q2O hk h1 e1,?_⟩;have hrest:∀{l:List (AV×AV)} ,z2c d k l=some none->(l.filter fun e=>!(q6d d k e.1==some true))=l:=by
    intro l;induction l with
    |nil=>intro _;rfl
    |cons y l ih=>
     obtain⟨k2,v2⟩:=y;intro h;simp only[z2c]at h;split at h
     ·cases h
     ·rename_i f1 f2;cases h;rw[xEu,xAb (by simp[f1]),ih f2]
     ·cases h
   rw[xEu,xAa (by simp[e1]),hrest e2];exact h3
  ·rename_i r' e1 e2;cases e;obtain⟨l1,y,l2,rfl,f1,f2,f3,f4⟩:=z0N hk h3 e2;refine⟨x::l1,y,l2,rfl,fun z hz=>?_,f2,f3,?_⟩
   ·rcases xmk0.1 hz with rfl|hz
    ·exact q2O hk h1 e1
    ·exact f1 z hz
   ·rw[xEu,xAb (by simp[e1])];simp only[xAy,ER];exact⟨_,_,rfl,h1,h2,f4⟩
  ·cases e
theorem z2d {k v:AV} {c cv:Value} (hk:VR p k c) (hv:VR p v cv) {l:List (AV×AV)} {ces:List MapEntry} (h:ER p l ces) (n:Nat):ER p (l++[(k,v)]) (ces++[{key:=c,val:=cv,born:=n}]):=by
 induction l generalizing ces with
 |nil=>simp only[ER]at h;subst h;simp only[xAm,ER];exact⟨_,_,rfl,hk,hv,rfl⟩
 |cons x l ih=>
  obtain⟨k',v'⟩:=x;simp only[ER]at h;obtain⟨e,es,rfl,h1,h2,h3⟩:=h;simp only[xAy,ER];exact⟨_,_,rfl,h1,h2,ih h3⟩
theorem z0Q {α:Type} (f:α->α) (y:α) (e2:List α):∀e1:List α,(e1++y::e2).modify e1.length f=e1++f y::e2
 |[]=>rfl
 |x::e1=>by simp[z0Q f y e2 e1]
theorem z5Q (k:IntKind) (n:Int):Instr.sameBits 10000 (.int k n) (.int k n)=true:=by simp[Instr.sameBits]
theorem z5R (s:List UInt8):Instr.sameBits 10000 (.string ⟨⟨s⟩⟩) (.string ⟨⟨s⟩⟩)=true:=by
 simp only[Instr.sameBits];rw[z7F];simp
theorem j1w {d:TypeDesc} {k:AV} {c x:Value} {bb:Bool} (hk:VR p k c) (e:q6d d k k=some bb) (h:Instr.sameNow d c x=some true):x=c/\Instr.sameBits 10000 x c=true:=by
 unfold q6d at e;split at e
 ·simp only[VR]at hk;subst hk;split at e
  ·cases x<;>simp only[Instr.sameNow]at h<;>first|(cases h;done)|skip
   split at h
   ·rename_i e1;subst e1;have h':=beq_iff_eq.1 (xsj h);subst h';exact⟨rfl,z5Q _ _⟩
   ·cases h
  ·cases e
 ·simp only[VR]at hk;subst hk;split at e
  ·cases x<;>simp only[Instr.sameNow]at h<;>first|(cases h;done)|skip
   rename_i t;obtain⟨⟨t⟩⟩:=t;simp only[xoi]at h;rw[z7F]at h;have:=beq_iff_eq.1 h;subst this;exact⟨rfl,z5R _⟩
  ·cases e
 ·cases e
theorem q8w (hm:MR P p m w) {b:Nat} {ci:CI} {es es':List (AV×AV)} (hb:m.get b=some (.map es)) (hp:p b=some ci) {ces ces':Array MapEntry} {clock clock':Nat} (hc:w.heap[ci.c]? = some (.map ces clock))
  (hl:∃l,l.Perm es'/\ER p l ces'.toList) (hn:(ces'.toList.map (·.born)).Nodup) (hlt:∀e∈ces'.toList,e.born<clock') :
  Sim P p m w p (m.put b (some (.map es'))) {w with heap:=w.heap.setIfInBounds ci.c (.map ces' clock')}:=by
 have hlt2:=(xBb.1 hc).1;refine Sim.z2E hm hb (by simp) hp (o:=.map ces' clock') (xBs hlt2) (fun c hc=>?_) (by simp) rfl rfl rfl fun x hx=>?_
 ·exact xBn (Ne.symm hc)
 ·cases hx;exact⟨ces',clock',rfl,hl,hn,hlt⟩
theorem q7T (hm:MR P p m w) {t:TypeId} {x k v:AV} {x' k' v':Value} (hx:VR p x x') (hk:VR p k k') (hv:VR p v v') {m':Mem} (h:q37 P t x k v m=some m') :
  ∃w',(Instr.mapUpdate t x' k' v').run P w=.ok () w'/\Sim P p m w p m' w':=by
 unfold q37 at h;split at h
 ·rename_i key elem b hd;obtain⟨d,h1,h⟩:=be h;split at h
  ·rename_i es hb;obtain⟨bb,h3,h⟩:=be h;obtain⟨es',h4,rfl⟩:=xoe.1 h;simp only[VR]at hx;obtain⟨ci,hp,rfl⟩:=hx;obtain⟨o,hc,ces,clock,rfl,⟨l,h6,h7⟩,h8,h9⟩:=hm.has b _ ci hb hp;obtain⟨ces',q1,q2⟩:=h7.perm h6;have hkind:=(q7w hk h3).1;unfold b8j at h4;split at h4
   ·rename_i hg;cases h4;obtain⟨g1,g2,_⟩:=q4C hk q2 hg;have hn:Instr.findNow d k' ces.toList 0=some none:=q31 fun e he=>g2 rfl e (q1.mem_iff.1 he)
    refine⟨_,?_,q8w hm hb hp hc (ces':=ces.push {key:=k',val:=v',born:=clock}) (clock':=clock+1) ?_ ?_ ?_⟩
    ·simp only[Instr.mapUpdate,Sem.run_bind,q0l hd,Result.andThen_ok,q0Y hc (by simp),run_checkKey h1 hkind,run_findKey h1 hn];rw[q1X hc (by simp)]
    ·refine⟨l++[(k,v)],(h6.append_right _).trans (z5g k v es),?_⟩;simp only[Array.toList_push];exact z2d hk hv h7 clock
    ·simp only[Array.toList_push,xCx,xBf,xFw];rw[List.nodup_append];refine⟨h8,by simp,?_⟩;intro a ha c hc;simp only[xms]at hc;subst hc;obtain⟨e,he,rfl⟩:=xBr.1 ha;have:=h9 e he;omega
    ·intro e he;simp only[Array.toList_push,xma,xms]at he;rcases he with he|rfl
     ·have:=h9 e he;omega
     ·simp
   ·rename_i u hg;cases h4;obtain⟨l1,y,l2,rfl,f1,f2,f3,f4⟩:=z0R hk hv q2 hg;obtain⟨e1,e2,he,hpp,q3,q4⟩:=q7D f1 f2 q1;have hs:Instr.findNow d k' ces.toList 0=some (some (0+e1.length,y.val)):=by rw[he];exact q33 f3 q3
    have hy:=j1w hk h3 f3;have hce:ces=⟨e1++y::e2⟩:=by apply xEy;exact he
    subst hce;have hget:((⟨e1++y::e2⟩:Array MapEntry)[0+e1.length]?)=some y:=by simp
    refine⟨_,?_,q8w hm hb hp hc (ces':=⟨e1++{y with key:=k',val:=v'}::e2⟩) (clock':=clock) ?_ ?_ ?_⟩
    ·simp only[Instr.mapUpdate,Sem.run_bind,q0l hd,Result.andThen_ok,q0Y hc (by simp),run_checkKey h1 hkind,run_findKey h1 hs];simp only[hget,xom,xEt,Instr.keyThatStays,hy.2,xAd,Sem.run_pure,Result.andThen_ok];rw[q1X hc (by simp)];congr 3;congr 1;apply xEy;simp only[Array.toList_modify,xnz];exact z0Q _ _ _ _
    ·exact ER.j9z ((List.perm_middle (l₁:=l1)).trans (((hpp.symm).cons _).trans (List.perm_middle (l₁:=e1)).symm)) f4
    ·simpa using h8
    ·intro e he;simp only[xma,xmk0]at he h9;rcases he with he|rfl|he
     ·exact h9 e (.inl he)
     ·exact h9 y (.inr (.inl rfl))
     ·exact h9 e (.inr (.inr he))
   ·cases h4
  ·cases h
 ·cases h
theorem z5f (hm:MR P p m w) {t:TypeId} {x k:AV} {x' k':Value} (hx:VR p x x') (hk:VR p k k') {m':Mem} (h:q6W P t x k m=some m') {ty:TypeId} {ts:List TypeId} :
  ∃w',(Builtin.delete_ ⟨t::ts⟩ ty #[x',k']).run P w=.ok (.tuple #[]) w'/\Sim P p m w p m' w':=by
 unfold q6W at h;split at h
 ·rename_i key elem b hd;obtain⟨d,h1,h⟩:=be h;split at h
  ·rename_i es hb;obtain⟨bb,h3,h⟩:=be h;obtain⟨es',h4,rfl⟩:=xoe.1 h;simp only[VR]at hx;obtain⟨ci,hp,rfl⟩:=hx;obtain⟨o,hc,ces,clock,rfl,⟨l,h6,h7⟩,h8,h9⟩:=hm.has b _ ci hb hp;obtain⟨ces',q1,q2⟩:=h7.perm h6;have hkind:=(q7w hk h3).1;unfold b8i at h4;split at h4
   ·rename_i r hg;cases h4;cases r with
    |none=>
     obtain⟨g1,g2,_⟩:=q4C hk q2 hg;have hn:Instr.findNow d k' ces.toList 0=some none:=q31 fun e he=>g2 rfl e (q1.mem_iff.1 he)
     have hrest:∀{l:List (AV×AV)} ,z2c d k l=some none->(l.filter fun e=>!(q6d d k e.1==some true))=l:=by
      intro l;induction l with
      |nil=>intro _;rfl
      |cons y l ih=>
       obtain⟨k2,v2⟩:=y;intro h;simp only[z2c]at h;split at h
       ·cases h
       ·rename_i f1 f2;cases h;rw[xEu,xAb (by simp[f1]),ih f2]
       ·cases h
     refine⟨_,?_,q8w hm hb hp hc (ces':=ces) (clock':=clock) (by rw[hrest hg];exact⟨l,h6,h7⟩) h8 h9⟩;simp only[Builtin.delete_,xEf,xgz,xgs,Sem.run_bind,q0l hd,Result.andThen_ok,q0Y hc (by simp),run_checkKey h1 hkind,run_findKey h1 hn];rw[q1X hc (by simp)];rfl
    |some u=>
     obtain⟨l1,y,l2,rfl,f1,f2,f3,f4⟩:=z0N hk q2 hg;obtain⟨e1,e2,he,hpp,q3,q4⟩:=q7D f1 f2 q1;have hs:Instr.findNow d k' ces.toList 0=some (some (0+e1.length,y.val)):=by rw[he];exact q33 f3 q3
     have hce:ces=⟨e1++y::e2⟩:=by apply xEy;exact he
     subst hce;have her:(⟨e1++y::e2⟩:Array MapEntry).eraseIdxIfInBounds (0+e1.length)=⟨e1++e2⟩:=by
      apply xEy;simp[Array.eraseIdxIfInBounds,z3K]
     refine⟨_,?_,q8w hm hb hp hc (ces':=⟨e1++e2⟩) (clock':=clock) (ER.j9z hpp.symm f4) ?_ ?_⟩
     ·simp only[Builtin.delete_,xEf,xgz,xgs,Sem.run_bind,q0l hd,Result.andThen_ok,q0Y hc (by simp),run_checkKey h1 hkind,run_findKey h1 hs,her];rw[q1X hc (by simp)];rfl
     ·simp only[xCx,xBf]at h8⊢;exact h8.sublist (List.Sublist.append_left (List.sublist_cons_self _ _) _)
     ·intro e he;simp only[xma,xmk0]at he h9;rcases he with he|he
      ·exact h9 e (.inl he)
      ·exact h9 e (.inr (.inr he))
   ·cases h4
  ·cases h
 ·cases h
theorem z3B (hm:MR P p m w) {t:TypeId} {x:AV} {x':Value} (hx:VR p x x') {m':Mem} (h:q8Q P t x m=some m') {ty:TypeId} {ts:List TypeId} :
  ∃w',(Builtin.clear_ ⟨t::ts⟩ ty #[x']).run P w=.ok (.tuple #[]) w'/\Sim P p m w p m' w':=by
 unfold q8Q at h;split at h
 ·rename_i e hd;split at h
  ·cases h;simp only[VR]at hx;obtain⟨_,_,aa,rfl,_⟩:=hx;exact⟨w,by cases aa<;>simp[Builtin.clear_,q0l hd],Sim.refl hm⟩
  ·rename_i a sz len _ ex;obtain⟨zs,h1,h⟩:=be h;obtain⟨n,h2,h⟩:=be h;simp only[VR,SR]at hx;obtain⟨ci,off,cap',hci,rfl,hlc,hcc,hex,hbd,hoff⟩:=hx;split at h
   ·rename_i h0;cases h;subst h0;exact⟨w,by simp[Builtin.clear_,q0l hd],Sim.refl hm⟩
   ·rename_i h0;split at h
    ·rename_i hs;obtain⟨z,zs',g1,g2,g3,g4,_⟩:=q2k (p:=p) (w:=w) h1;have hall:(List.replicate len zs).flatten.all AV.one=true:=by
      rw[xBd]at g4⊢;intro v hv;simp only[List.mem_flatten,List.mem_replicate]at hv;obtain⟨l,⟨_,rfl⟩,hv⟩:=hv;exact g4 v hv
     obtain⟨w',f1,f2⟩:=q2G (P:=P) hm hci (g3.flat len) hall h;refine⟨w',?_,f2⟩;have ho:off=a.o+ci.d:=hoff (by omega);subst ho;have hlen:len≠0:=h0;have hz0:(Builtin.zeroCells (⟨zs'⟩:Array Value) len).toList=(List.replicate len zs').flatten:=by
      have:=q8y zs' len;unfold Builtin.zeroCells;simp only[xDr]at this⊢;rw[this]
     simp only[Builtin.clear_,xEf,xgz,Sem.run_bind,q0l hd,Result.andThen_ok];have:(storeCells ⟨ci.c,a.o+ci.d,none⟩ (Builtin.zeroCells z.cells len).toList).run P w=.ok () w':=by
      rw[g2,hz0];exact f1
     simp only[g1,Result.andThen_ok,this];rfl
    ·cases h
  ·cases h
 ·cases h
theorem q9u {t:TypeId} {x k v:AV} {m':Mem} (h:q37 P t x k v m=some m'):m'.next=m.next:=by
 unfold q37 at h;split at h
 ·obtain⟨d,h1,h⟩:=be h;split at h
  ·obtain⟨bb,h3,h⟩:=be h;obtain⟨es',h4,rfl⟩:=xoe.1 h;rfl
  ·cases h
 ·cases h
theorem z7e {t:TypeId} {x k:AV} {m':Mem} (h:q6W P t x k m=some m'):m'.next=m.next:=by
 unfold q6W at h;split at h
 ·obtain⟨d,h1,h⟩:=be h;split at h
  ·obtain⟨bb,h3,h⟩:=be h;obtain⟨es',h4,rfl⟩:=xoe.1 h;rfl
  ·cases h
 ·cases h
theorem z6F {t:TypeId} {x:AV} {m':Mem} (h:q8Q P t x m=some m'):m'.next=m.next:=by
 unfold q8Q at h;split at h
 ·split at h
  ·cases h;rfl
  ·obtain⟨zs,h1,h⟩:=be h;obtain⟨n,h2,h⟩:=be h;split at h
   ·cases h;rfl
   ·split at h
    ·obtain⟨_,_,_,rfl⟩:=q2p h;rfl
    ·cases h
  ·cases h
 ·cases h
end
end
end Go.Abs
