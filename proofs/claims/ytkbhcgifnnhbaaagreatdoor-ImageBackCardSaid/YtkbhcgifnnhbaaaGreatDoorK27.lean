/- Texts of one claim, put together. -/
import Derived.Test.YtkbhcgifnnhbaaaGreatDoorK26
import Derived.Handed
import Derived.HandedShaped
import Derived.OpenShut
import Derived.LaidMore
import Derived.Test.YtkbhcgifnnhbaaaGreatDoorTie
import Derived.Test.YtkbhcgifnnhbaaaGreatDoorCards
import Derived.ProofKit
import Derived.Stop.Joined
import Derived.MakeChecks
import Derived.SevenTiedAt
import Derived.Test.YtkbhcgifnnhbaaaGreatDoorRows
import Derived.JoinedOf
import Derived.KernelRfl
namespace Go.Proofs.YtkbhcgifnnhbaaaGreatDoor
open Go Go.Abs
set_option maxRecDepth 20000
set_option maxHeartbeats 1600000
section
def q9x (id seq used q:Int) (n k:Nat):q1d:=⟨q-((n:Int)-1-k),⟨(used % 50+k) % 3*20,id,(q18 (seq % 100000)).1,(q18 (seq % 100000)).2⟩⟩
def q2j (id seq used q:Int) (n:Nat):Nat->List q1d
 | 0=>[]
 |k+1=>q2j id seq used q n k++[q9x id seq used q n k]
section
variable {m:Mem} {ss:AV} {L:List (q0L×AV)} {i:Nat}
theorem z9F {b1 o1:Nat} {id seq used q u ni:Int} {n:Nat} {t5 t6:AV} {most:Int} (h1:∀k:IntKind,q0A TP 23 ss (.int k (i:Int))=some (.ptr (some ⟨b1,o1⟩)))
  (hb1:b1<m.next) (l0:ld1 m (.ptr (some ⟨b1,o1⟩))=some (.int .u64 id)) (l1:ld1 m (.ptr (some ⟨b1,o1+1⟩))=some (.int .u64 seq)) (l2:ld1 m (.ptr (some ⟨b1,o1+2⟩))=some (.int .u64 used))
  (hid:0<=id/\id<18446744073709551616) (hseq:0<=seq/\seq<18446744073709551616) (hused:0<=used/\used<18446744073709551616) (hq:0<=q/\q<9) (hn:(n:Int)=if q<=4 then q else 4) {p:Nat} (hp:m.next<=p) :
  ∀(d k:Nat) (M:Mem) (sl:AV) (r:Option Nat),k+d=n->Fr m M []->M.get p=some (.cells [.int .u64 ni,.int .u64 q,.int .u64 u,sl] false)->q08 6 M sl ((q2j id seq used q n k).map q1d.cells) r->(∀c,r=some c->m.next<=c/\c≠p)->
   ∃M' sl' r',D50.gor 61442 [ss,.int .i64 most,t5,t6,.int .i64 (i:Int),.ptr (some ⟨p,0⟩),.int .i64 (n:Int),.int .i64 (k:Int)] M=D50.gor 61445 [ss,.int .i64 most,t5,t6,.int .i64 (i:Int),.ptr (some ⟨p,0⟩)] M'/\Fr m M' []/\Fr M M' (p::r.toList)/\
    M'.get p=some (.cells [.int .u64 ni,.int .u64 q,.int .u64 u,sl'] false)/\q08 6 M' sl' ((q2j id seq used q n n).map q1d.cells) r'/\∀c,r'=some c->(r'=r\/M.next<=c)/\m.next<=c/\c≠p
 | 0,k,M,sl,r,hk,hf,hg,ht,hr=>by
  have:k=n:=by omega
  subst this;refine⟨M,sl,r,?_,hf,Fr.refl' M _,hg,ht,fun c hc=>⟨.inl rfl,hr c hc⟩⟩
  rw[z9g];simp only[a0V,p2,q0b,q1M,df (show ¬(k:Int)<(k:Int) by omega)]
 |d+1,k,M,sl,r,hk,hf,hg,ht,hr=>by
  have hn4:n<=4:=by split at hn<;>omega
  have kn:k<n:=by omega
  have ld:∀{M':Mem} {o:Nat},Fr m M' []->ld1 M' (.ptr (some ⟨b1,o⟩))=ld1 m (.ptr (some ⟨b1,o⟩)):=fun h=>z6X h hb1
  have a1:=(ld (o:=o1) hf).trans l0;have a2:=(ld (o:=o1+1) hf).trans l1;have a3:=(ld (o:=o1+2) hf).trans l2;have u1:used.tmod 50=used % 50:=xBm hused.1;have u2:seq.tmod 100000=seq % 100000:=xBm hseq.1;have w1:IntKind.wrap .i64 (used % 50)=used % 50:=by rw[wrap_i64 (by omega) (by omega)]
  have w2:IntKind.wrap .i64 (used % 50+(k:Int))=used % 50+k:=by rw[wrap_i64 (by omega) (by omega)]
  have w3:IntKind.wrap .i64 ((used % 50+(k:Int)) % 3*20)=(used % 50+k) % 3*20:=by rw[wrap_i64 (by omega) (by omega)]
  have w4:IntKind.wrap .i64 (seq % 100000)=seq % 100000:=by rw[wrap_i64 (by omega) (by omega)]
  have w5:IntKind.wrap .i64 ((n:Int)-1)=(n:Int)-1:=by rw[wrap_i64 (by omega) (by omega)]
  have w6:IntKind.wrap .i64 ((n:Int)-1-(k:Int))=(n:Int)-1-k:=by rw[wrap_i64 (by omega) (by omega)]
  have w7:IntKind.wrap .u64 ((n:Int)-1-(k:Int))=(n:Int)-1-k:=by rw[q0i];omega
  have w8:IntKind.wrap .u64 (q-((n:Int)-1-(k:Int)))=q-((n:Int)-1-k):=by rw[q0i];split at hn<;>omega
  have w9:IntKind.wrap .i64 ((k:Int)+1)=((k+1:Nat):Int):=by rw[wrap_i64 (by omega) (by omega)];omega
  have pk:=q2D (H:=H50) rfl M (used % 50+(k:Int)) (n:=3) (by omega) (by omega);have am:=j3E (H:=H50) rfl (n:=seq % 100000) (by omega) (by omega) M;obtain⟨D,hD⟩:∃D,D=q18 (seq % 100000):=⟨_,rfl⟩;rw[<-hD]at am;simp only[q0O]at am;obtain⟨R,hR⟩:∃R:q5W,R=⟨(used % 50+k) % 3*20,id,D.1,D.2⟩:=⟨_,rfl⟩;obtain⟨K,hK⟩:∃K:q1d,K=q9x id seq used q n k:=⟨_,rfl⟩;have hKR:K=⟨q-((n:Int)-1-k),R⟩:=by rw[hK,hR,hD];rfl
  obtain⟨M1,hM1⟩:∃M1,M1=M.lay (.cells R.cells false):=⟨_,rfl⟩;have f1:Fr M M1 []:=hM1▸(Fr.refl M).lay _;have eb:=(q1T (m:=M) (zs:=[.int .i64 0,.int .u64 0,.int .i64 0,.int .u64 0,.int .i64 0]) (cs:=R.cells) (n:=5) rfl rfl rfl).1;rw[<-hM1]at eb;have lR:ldN M1 (.ptr (some ⟨M.next,0⟩)) 5=some (.agg R.cells):=by rw[hM1];exact q0X (q0k _ _) rfl
  have g1:=f1.get hg (by simp);have k3:ld1 M1 (.ptr (some ⟨p,3⟩))=some sl:=by rw[q0e g1];rfl
  have k1:ld1 M1 (.ptr (some ⟨p,1⟩))=some (.int .u64 q):=by rw[q0e g1];rfl
  have hml:(q2j id seq used q n k).length=k:=by
   have:∀j,(q2j id seq used q n j).length=j:=fun j=>by
    induction j with
    |zero=>rfl
    |succ j ih=>unfold q2j;rw[xla0,ih];rfl
   exact this k
  have hmx:(64:Nat)*48<=q0j:=by decide
  obtain⟨s',M2,M3,e2,e3,g3,t3,f3⟩:=q8p (cs:=K.cells) (n:=6) (w:=48) (j:=3) (by omega) g1 (by simp) (ht.frame f1 (by simp)) (fun e=>(hr _ e).2 rfl) rfl rfl (by rw[xlm,hml];omega)
  have hfp:Fr m M3 []:=(hf.step0 f1).step f3 (fun c hc=>by
   simp only[xmk0,xAw]at hc;rcases hc with h|h
   ·exact .inr (by omega)
   ·exact .inr (hr c h).1)
  have hmn:=hf.next
  have pl:=Mem.q0u hg;have n1:M1.next=M.next+1:=by rw[hM1];simp
  obtain⟨M4,sl4,r4,e4,f4,f34,g4,t4,o4⟩:=z9F (ni:=ni) (u:=u) (t5:=t5) (t6:=t6) (most:=most) h1 hb1 l0 l1 l2 hid hseq hused hq hn hp d (k+1) M3 s' _ (by omega) hfp (by simpa using g3) (by unfold q2j;rw[<-hK];simpa using t3) (fun c hc=>by cases hc;omega)
  have n3:=f3.next
  refine⟨M4,sl4,r4,?_,f4,((f1.any _).step f3 (fun c hc=>.inl hc)).step f34 (fun c hc=>?_),g4,t4,fun c hc=>?_⟩
  ·have hRf:AV.agg [.int .i64 ((used % 50+(k:Int)) % 3*20),.int .u64 id,.int .i64 D.1.hi,.int .u64 D.1.lo,.int .i64 D.2]=.agg R.cells:=by rw[hR];rfl
   have ec:=q40 (n:=6) (zs:=[.int .u64 0,.int .i64 0,.int .u64 0,.int .i64 0,.int .u64 0,.int .i64 0]) (cs:=K.cells) rfl rfl rfl;have hR5:R.cells=[.int .i64 ((used % 50+(k:Int)) % 3*20),.int .u64 id,.int .i64 D.1.hi,.int .u64 D.1.lo,.int .i64 D.2]:=by rw[hR];rfl
   have hK6:K.cells=[.int .u64 (q-((n:Int)-1-k)),.int .i64 ((used % 50+(k:Int)) % 3*20),.int .u64 id,.int .i64 D.1.hi,.int .u64 D.1.lo,.int .i64 D.2]:=by rw[hKR,hR];rfl
   rw[hK6]at ec e2;rw[z9g];simp only[a0V,p2,q0b,q1M,dt (show (k:Int)<(n:Int) by omega),a2g (H:=H50),a7a,p1,q1,pB,apE,q0p,AV.cells,Nat.reduceAdd,Nat.reduceLeDiff,q1M,h1,a1,a2,a3,q2f _ _ _ _ (show (50:Int)≠0 by decide),q2f _ _ _ _ (show (100000:Int)≠0 by decide),u1,u2,w1,w2,w3,w4,pk,am,AV.one,xBq,xCw,hRf,eb,k3,k1,w5,w6,w7,w8,lR,hR5,ec,e2,e3,a2h (H:=H50),a7b,q1M,w9,e4]
  ·simp only[xmk0,xAw]at hc;rcases hc with h|h
   ·exact .inl (by simp[h])
   ·cases h;exact .inr (by omega)
  ·have h4:=o4 c hc;refine⟨?_,h4.2⟩;rcases h4.1 with h|h
   ·rw[h]at hc;cases hc;exact .inr (by omega)
   ·exact .inr (by omega)
theorem q2P (id seq used q:Int) (n:Nat):∀j,(q2j id seq used q n j).length=j
 | 0=>rfl
 |j+1=>by unfold q2j;rw[xla0,q2P id seq used q n j];rfl
theorem q6f (id seq used q:Int) (n:Nat):∀j i,i<j->(q2j id seq used q n j)[i]? = some (q9x id seq used q n i)
 | 0,i,h=>by omega
 |j+1,i,h=>by
  unfold q2j;have hl:=q2P id seq used q n j;by_cases c:i=j
  ·subst c;rw[xBl (by omega),hl];simp
  ·rw[xBj (by omega)];exact q6f id seq used q n j i (by omega)
theorem q6n (n:Int):0<=(q18 n).2/\(q18 n).2<=18:=by
 unfold q18
 repeat' split
 all_goals (first|exact⟨by decide,by decide⟩|exact⟨by simp only;omega,by simp only;omega⟩|(simp only;omega))
def z0P (prev:Int) (x:q0L):q0L:=
 ⟨prev+1+x.id % 5,x.seq % 9,x.used % 100,q2j x.id x.seq x.used (x.seq % 9) (if x.seq % 9<=4 then x.seq % 9 else 4).toNat (if x.seq % 9<=4 then x.seq % 9 else 4).toNat⟩
def q4m (l:List q0L):Int:=q3A l l.length
theorem z5h {prev:Int} {x:q0L} (hx:x.ty):q65 (z0P prev x)=true:=by
 have q0:0<=x.seq % 9/\x.seq % 9<9:=by omega
 obtain⟨q,hq⟩:∃q,q=x.seq % 9:=⟨_,rfl⟩;obtain⟨n,hn⟩:∃n:Nat,n=(if q<=4 then q else 4).toNat:=⟨_,rfl⟩
 have hm:(z0P prev x).kept=q2j x.id x.seq x.used q n n:=by rw[hn,hq];rfl
 have hs:(z0P prev x).seq=q:=hq.symm;have hl:(z0P prev x).kept.length=n:=by rw[hm,q2P]
 have hn2:(n:Int)=if q<=4 then q else 4:=by rw[hn];split<;>omega
 unfold q65;rw[hl,hs,dt hn2,xAs,q2t];intro j _ hj;unfold z0V;rw[hm,q6f _ _ _ _ _ _ _ (by omega)];simp only[j6Q,hs,hm,q2P,q9x,xAc,xAj];have:=q6n (x.seq % 100000);have hu:=hx.u;refine⟨by omega,dt (by omega),dt (by omega),dt this.1,dt this.2⟩
theorem j9m {prev:Int} {x:q0L} (hx:x.ty) (hp:0<=prev/\prev<1000000):(z0P prev x).ty:=by
 have hi:=hx.i;have hq:=hx.q;have hu:=hx.u;refine⟨by show 0<=prev+1+x.id % 5/\prev+1+x.id % 5<18446744073709551616;omega,by show 0<=x.seq % 9/\x.seq % 9<18446744073709551616;omega,by show 0<=x.used % 100/\x.used % 100<18446744073709551616;omega,fun k hk=>?_⟩
 have hn:(if x.seq % 9<=4 then x.seq % 9 else 4).toNat<=4:=by split<;>omega
 have hkk:k∈q2j x.id x.seq x.used (x.seq % 9) (if x.seq % 9<=4 then x.seq % 9 else 4).toNat (if x.seq % 9<=4 then x.seq % 9 else 4).toNat:=hk
 obtain⟨j,hj,rfl⟩:=xBg.1 hkk;rw[q2P]at hj;have e:=q6f x.id x.seq x.used (x.seq % 9) (if x.seq % 9<=4 then x.seq % 9 else 4).toNat _ j hj
 rw[xgq (by rw[q2P];exact hj)]at e;rw[xsj e];have:=q6n (x.seq % 100000);refine⟨?_,⟨?_,hx.i,z0q _,?_⟩⟩
 ·simp only[q9x];split at hj<;>(try split)<;>omega
 ·simp only[q9x];omega
 ·simp only[q9x];omega
theorem j1e {S:List q0L} {x:q0L} (h:q3S (q5d S) S.length 0=true) (hx:q4m S<x.id/\x.id<=72057594037927935/\x.seq<=72057594037927935/\x.used<=72057594037927935) (hr:q65 x=true):q3S (q5d (S++[x])) (S++[x]).length 0=true:=by
 rw[q2t]at h⊢;have hah:∀j,j<=S.length->q3A (S++[x]) j=q3A S j:=fun j hj=>by
  cases j with
  |zero=>rfl
  |succ j=>
   show (match (S++[x])[j]? with|some x=>x.id|none=>0)=(match S[j]? with|some x=>x.id|none=>0)
   rw[xBj (by omega)]
 intro j _ hj;rw[xla0,xEe]at hj;unfold q5d;by_cases c:j<S.length
 ·have:=h j (by omega) (by omega);unfold q5d at this;rw[xBj c];rw[xgq c]at this⊢;simp only[j0S]at this⊢;rw[hah j (by omega)];exact this
 ·have:j=S.length:=by omega
  subst this;rw[xBl (xnr _),xFu];simp only[ge,j0S,xAc,xAj];rw[hah _ (xnr _)];exact⟨hx.1,hx.2.1,hx.2.2.1,hx.2.2.2,hr⟩
theorem z0L (S:List q0L) (x:q0L):q4m (S++[x])=x.id:=by
 unfold q4m;rw[xla0,xEe];show (match (S++[x])[S.length]? with|some x=>x.id|none=>0)=_
 rw[xBl (xnr _),xFu];rfl
theorem j8S (h:SsV m ss L) (ht:∀x∈L,x.1.ty) (hL:L.length<4611686018427387904) {most:Nat} (hm:most<=16):∀(d i:Nat) (M:Mem) (s:AV) (C:List (q0L×AV×Option Nat)) (r:Option Nat) (S:List q0L),i+d=min L.length most->Fr m M []->SsA M s C r m.next->C.map Prod.fst=S->S.length=i->q3S (q5d S) S.length 0=true->(∀x∈S,x.ty)->0<=q4m S/\q4m S<=6*(i:Int)->
  ∃s' C' r' M',D50.gor 61440 [ss,.int .i64 (most:Int),s,.int .u64 (q4m S),.int .i64 (i:Int)] M=some (s',M')/\SsA M' s' C' r' m.next/\Fr m M' []/\C'.length<=most/\q3S (q5d (C'.map Prod.fst)) C'.length 0=true/\∀x∈C',x.1.ty
 | 0,i,M,s,C,r,S,hi,hf,hS,hC,hSl,hok,hty,_=>by
  have hlen:=h.t.q2e q2b;rw[xlm]at hlen;have hCl:C.length=i:=by rw[<-hSl,<-hC];simp
  refine⟨s,C,r,M,?_,hS,hf,by omega,by rw[hC,hCl,<-hSl];exact hok,fun x hx=>hty _ (by rw[<-hC];exact xCe hx)⟩
  rw[z9f];by_cases c:i<L.length
  ·simp only[j2t,p1,p2,q0b,ifV,q1M,hlen,dt (show (i:Int)<(L.length:Int) by omega),df (show ¬(i:Int)<(most:Int) by omega),z9h (H:=H50),a0W,q1M]
  ·simp only[j2t,p1,p2,q0b,ifV,q1M,hlen,df (show ¬(i:Int)<(L.length:Int) by omega),z9h (H:=H50),a0W,q1M]
 |d+1,i,M,s,C,r,S,hi,hf,hS,hC,hSl,hok,hty,hid=>by
  have hlen:=h.t.q2e q2b;rw[xlm]at hlen;have hil:i<L.length:=by omega
  have him:i<most:=by omega
  obtain⟨bb,oo,hbb,a1,a2,_,a4⟩:=h.t.ixT q2b q7t (i:=i) (by simpa using hil);obtain⟨y,hy⟩:∃y,y=L[i]:=⟨_,rfl⟩;rw[xgm,<-hy]at a2;have hyL:y∈L:=hy▸xAf hil;obtain⟨x,sx⟩:=y;have tx:=ht _ hyL;simp only at a2 tx;have l0:=(a2 0 (by omega)).trans (show _=some (AV.int .u64 x.id) from rfl);have l1:=(a2 1 (by omega)).trans (show _=some (AV.int .u64 x.seq) from rfl);have l2:=(a2 2 (by omega)).trans (show _=some (AV.int .u64 x.used) from rfl)
  simp only[xna]at l0;have ld:∀{M':Mem} {o:Nat},Fr m M' []->ld1 M' (.ptr (some ⟨bb,o⟩))=ld1 m (.ptr (some ⟨bb,o⟩)):=fun h=>z6X h hbb
  obtain⟨q,hq⟩:∃q,q=x.seq % 9:=⟨_,rfl⟩;obtain⟨n,hn⟩:∃n:Nat,n=(if q<=4 then q else 4).toNat:=⟨_,rfl⟩
  have hq9:0<=q/\q<9:=by rw[hq];omega
  have hn2:(n:Int)=if q<=4 then q else 4:=by rw[hn];split<;>omega
  have ti:=tx.i;have tq:=tx.q;have tu:=tx.u;obtain⟨X,hX⟩:∃X,X=z0P (q4m S) x:=⟨_,rfl⟩;have X1:X.id=q4m S+1+x.id % 5:=by rw[hX];rfl
  have X2:X.seq=q:=by rw[hX,hq];rfl
  have X3:X.used=x.used % 100:=by rw[hX];rfl
  have X4:X.kept=q2j x.id x.seq x.used q n n:=by rw[hX,hn,hq];rfl
  have u1:x.id.tmod 5=x.id % 5:=xBm ti.1;have u2:x.seq.tmod 9=q:=by rw[hq];exact xBm tq.1
  have u3:x.used.tmod 100=x.used % 100:=xBm tu.1;have w1:IntKind.wrap .u64 (q4m S+1)=q4m S+1:=by rw[q0i];omega
  have w2:IntKind.wrap .u64 (q4m S+1+x.id % 5)=X.id:=by rw[X1,q0i];omega
  have w5:IntKind.wrap .i64 ((i:Int)+1)=((i+1:Nat):Int):=by rw[wrap_i64 (by omega) (by omega)];omega
  have hmin:a6E (.int .u64 q) (.int .u64 4)=some (.int .u64 (n:Int)):=by
   rw[hn2];simp only[a6E];split<;>split<;>first|rfl|(congr 2;omega)
  have w6:IntKind.wrap .i64 (n:Int)=(n:Int):=by rw[wrap_i64 (by split at hn2<;>omega) (by split at hn2<;>omega)]
  obtain⟨M1,hM1⟩:∃M1,M1=M.lay (.cells (q1k ⟨X.id,q,x.used % 100,[]⟩ (.sl none 0 0 0 true)) false):=⟨_,rfl⟩;have f1:Fr M M1 []:=hM1▸(Fr.refl M).lay _;have g1:M1.get M.next=some (.cells [.int .u64 X.id,.int .u64 q,.int .u64 (x.used % 100),.sl none 0 0 0 true] false):=by rw[hM1];exact q0k _ _
  have eb:=(q1T (m:=M) (zs:=[.int .u64 0,.int .u64 0,.int .u64 0,.sl none 0 0 0 true]) (cs:=[.int .u64 X.id,.int .u64 q,.int .u64 (x.used % 100),.sl none 0 0 0 true]) (n:=4) rfl rfl rfl).1;have eb':stV (M.lay (.cells [.int .u64 0,.int .u64 0,.int .u64 0,.sl none 0 0 0 true] false)) (.ptr (some ⟨M.next,0⟩)) (.agg [.int .u64 X.id,.int .u64 q,.int .u64 (x.used % 100),.sl none 0 0 0 true]) 4=some M1:=by rw[eb,hM1]
  have hmn:=hf.next
  have n1:M1.next=M.next+1:=by rw[hM1];simp
  have lq:ld1 M1 (.ptr (some ⟨M.next,1⟩))=some (.int .u64 q):=by rw[q0e g1];rfl
  obtain⟨M2,sl,rk,e2,f2,f12,g2,t2,o2⟩:=z9F (m:=m) (ni:=X.id) (u:=x.used % 100) (t5:=s) (t6:=.int .u64 X.id) (most:=(most:Int)) (p:=M.next) a1 hbb l0 l1 l2 ti tq tu hq9 hn2 hmn n 0 M1 _ none (by omega) (hf.step0 f1) g1 (q08.nil _ _ _ _) (by simp)
  have n2:=f12.next
  have hone:(q1k X sl).all AV.one=true:=by simp only[q1k,xBq,t2.one,xCw];rfl
  have t2':q08 6 M2 sl (X.kept.map q1d.cells) rk:=by rw[X4];exact t2
  have lp:ldN M2 (.ptr (some ⟨M.next,0⟩)) 4=some (.agg (q1k X sl)):=by
   have:=q0X (n:=4) g2 rfl;rw[this];simp only[q1k,X2,X3]
  obtain⟨M3,hM3⟩:∃M3,M3=M2.lay (.cells (q1k X sl) false):=⟨_,rfl⟩;have f3:Fr M2 M3 []:=hM3▸(Fr.refl M2).lay _;have g3:M3.get M2.next=some (.cells (q1k X sl) false):=by rw[hM3];exact q0k _ _
  have n3:M3.next=M2.next+1:=by rw[hM3];simp
  have fM3:Fr M M3 []:=(f1.step f12 (fun c hc=>by simp at hc;exact .inr (by omega))).step0 f3
  have S3:=hS.frame fM3 (by simp);have hCl:C.length=i:=by rw[<-hSl,<-hC];simp
  have hmx:(64:Nat)*48<=q0j:=by decide
  obtain⟨s4,M4,e4,t4,n4,f4⟩:=q4s (w:=48) (by omega) S3.t g3 rfl hone (by simp;omega);have hrr:∀c,c∈r.toList->m.next<=c:=fun c hc=>hS.g c (by simpa using hc)
  have hrl:∀c,r=some c->c<M.next:=fun c hc=>by have h3:=hS.t;rw[hc]at h3;exact h3.lt
  have t3:=t2'.frame f3 (by simp);have hrk:∀c,rk=some c->M1.next<=c:=fun c hc=>by
   rcases (o2 c hc).1 with h|h
   ·rw[h]at hc;cases hc
   ·exact h
  have S4:SsA M4 s4 (C++[(X,sl,rk)]) (some M3.next) m.next:=by
   refine⟨by simpa using t4,fun c hc=>by cases hc;omega,fun y hy=>?_⟩
   rcases xma.1 hy with hy|hy
   ·obtain⟨y1,y2⟩:=S3.k y hy;refine⟨y1.frame f4 (fun c hc h=>(y2 c hc).2 (by simpa using h)),fun c hc=>⟨(y2 c hc).1,fun h=>?_⟩⟩
    cases h;have h3:=y1;rw[hc]at h3;have:=h3.lt;omega
   ·obtain rfl:=xms.1 hy;refine⟨t3.frame f4 (fun c hc h=>?_),fun c hc=>⟨?_,fun h=>?_⟩⟩
    ·have:=hrk c hc;have:=hrl _ (by simpa using h);omega
    ·have:=hrk c hc;omega
    ·cases h;have hc':rk=some M3.next:=hc
     rw[hc']at t3;have:=t3.lt;omega
  have hXr:=z5h (prev:=q4m S) tx;rw[<-hX]at hXr;have hXt:=j9m (prev:=q4m S) tx ⟨hid.1,by omega⟩;rw[<-hX]at hXt;obtain⟨s',C',r',M',e5,S5,f5,h5⟩:=j8S h ht hL hm d (i+1) M4 s4 _ _ (S++[X]) (by omega) ((hf.step0 fM3).step f4 (fun c hc=>.inr (hrr c hc))) S4 (by rw[xCx,hC];rfl) (by rw[xla0,hSl];rfl) (j1e hok ⟨by omega,by omega,by omega,by omega⟩ hXr) (fun z hz=>by
   rcases xma.1 hz with hz|hz
   ·exact hty z hz
   ·obtain rfl:=xms.1 hz;exact hXt) (by rw[z0L];omega)
  refine⟨s',C',r',M',?_,S5,f5,h5⟩;rw[z0L]at e5;have ec:=q40 (n:=4) (zs:=[.int .u64 0,.int .u64 0,.int .u64 0,.sl none 0 0 0 true]) hone rfl rfl;simp only[xAz]at e2;rw[z9f];simp only[j2t,p1,p2,q0b,ifV,q1M,hlen,dt (show (i:Int)<(L.length:Int) by omega),dt (show (i:Int)<(most:Int) by omega),a2f (H:=H50),a6Z,q1,pB,q0p,AV.cells,Nat.reduceAdd,Nat.reduceLeDiff,q1M,a1,(ld hf).trans l0,(ld hf).trans l1,(ld hf).trans l2,q2f _ _ _ _ (show (5:Int)≠0 by decide),q2f _ _ _ _ (show (9:Int)≠0 by decide),q2f _ _ _ _ (show (100:Int)≠0 by decide),u1,u2,u3,w1,w2,eb',lq,hmin,w6,e2,a2i (H:=H50),a7c,apE,q1M,lp,ec,<-hM3,e4,a2j (H:=H50),a7d,q1M,w5,e5]
theorem a3p (h:SsV m ss L) (ht:∀x∈L,x.1.ty) (hL:L.length<4611686018427387904) {most:Nat} (hm:most<=16) :
  ∃s C r m',run E50 (.fn 15) [ss,.int .i64 (most:Int)] m=some (s,m')/\SsA m' s C r m.next/\Fr m m' []/\q66 16 (C.map Prod.fst)=true/\∀x∈C,x.1.ty:=by
 obtain⟨s,C,r,m',e,h1,h2,h3,h4,h5⟩:=j8S h ht hL hm (min L.length most) 0 m (.sl none 0 0 0 true) [] none [] (by omega) (Fr.refl m) ⟨q08.nil _ _ _ _,by simp,by simp⟩ rfl rfl rfl (by simp) ⟨by decide,by decide⟩;simp only[xAz]at e;refine⟨s,C,r,m',by simp only[b3M (H:=H50) rfl,F15,q1M];exact e,h1,h2,?_,h5⟩;unfold q66;simp only[xlm,h4,Bool.and_true,xAc,xAj];omega
end
end
section
open Go Go.Abs
set_option maxRecDepth 20000
set_option maxHeartbeats 800000
theorem z3l {k:LSt} (ok:q8z k) (h:q5h k=true):q8A k:=by
 have g:=z4Y ok h;have w:=g.w;have hl:=w.lat;refine⟨⟨by have:=w.lp;omega,fun p hp=>?_⟩,⟨by have:=w.lq;omega,fun q hq=>?_⟩,⟨hl.1,by show _<=(18446744073709551615:Int);omega⟩,by have:=w.la;omega,fun a ha=>?_⟩
 ·obtain⟨s0,s1,o,n⟩:=w.okp p hp;exact⟨by rw[q9y n];decide,⟨s0,s1⟩,o⟩
 ·obtain⟨r,rr,i,o,x,y⟩:=w.okq q hq;unfold q5i at rr;rw[xAj]at rr;exact⟨by rw[q1G w x];decide,by rw[q1G w y];decide,rr.1,r,i,o⟩
 ·obtain⟨b,i0,i1,c⟩:=w.oka a ha;exact⟨⟨i0,by show _<=(18446744073709551615:Int);omega⟩,by rw[q1G w c];decide,b⟩
def z2K (k:LSt) (l:List q0L):Bool:=q5h k&&q66 16 l
def z1v (k:LSt) (l:List q0L):List UInt8:=if z2K k l=true then z2F k l else []
def j4q (k:LSt) (l:List q0L):Int:=if z2K k l=true then 0 else 1
section
variable {m:Mem} {k:LSt} {sp sq sa ss:AV} {L:List (q0L×AV)}
theorem a8L (ok:q8z k) (ht:∀x∈L,x.1.ty) (h:z2K k (sOf L)=true):(z2F k (sOf L)).length<=32768/\((L.length:Int)<=16/\∀x∈L,x.1.ok)/\q8A k:=by
 unfold z2K at h;rw[xAc]at h;have h1:=z3l ok h.1;have h2:=z5J h.2 (fun s hs=>by obtain⟨x,hx,rfl⟩:=xBr.1 hs;exact ht x hx)
 refine⟨z2G h1 h2.1 h2.2,⟨by simpa using h2.1,fun x hx=>h2.2 _ (xCe hx)⟩,h1⟩
theorem j4r (hb:BkV m sp sq sa k) (ok:q8z k) (h64:k.most=64) (hs:SsV m ss L) (ht:∀x∈L,x.1.ty) (hk:∀x∈L,x.1.kept.length<4611686018427387904) :
  ∃s m' rb,run E50 (.fn 18) [.agg [sp,sq,sa,.int .u64 k.latest],ss] m=some (.tup [s,.int .i64 (j4q k (sOf L))],m')/\Row m' s (u8 (z1v k (sOf L))) rb/\Fr m m' []/\∀c,rb=some c->m.next<=c:=by
 obtain⟨M,hM⟩:∃M,M=m.lay (.cells [sp,sq,sa,.int .u64 k.latest] false):=⟨_,rfl⟩;have fM:Fr m M []:=hM▸(Fr.refl m).lay _;have gM:M.get m.next=some (.cells [sp,sq,sa,.int .u64 k.latest] false):=by rw[hM];exact q0k _ _
 have eb:q00 (.agg [sp,sq,sa,.int .u64 k.latest])=some (.cells [sp,sq,sa,.int .u64 k.latest] false,fun b=>.ptr (some ⟨b,0⟩)):=j3Q (hb.one _)
 have lM:ldN M (.ptr (some ⟨m.next,0⟩)) 4=some (.agg [sp,sq,sa,.int .u64 k.latest]):=q0X gM rfl
 have r1:=z95 (H:=H50) rfl hb ok M fM;rw[h64]at r1;have hmax:32768+100<=q0j:=by decide
 unfold z1v j4q;cases c1:q5h k with
 |false=>
  rw[c1]at r1;have e:z2K k (sOf L)=false:=by unfold z2K;rw[c1];rfl
  rw[e];refine⟨.sl none 0 0 0 true,M,none,?_,.inl ⟨⟨_,_,rfl⟩,rfl,rfl⟩,fM,by simp⟩;simp only[j4B (H:=H50) rfl,F18,q1,p1,q0b,ifV,unA,q0f,eb,<-hM,lM,r1,xbf];rfl
 |true=>
  rw[c1]at r1;obtain⟨M1,r2,f2⟩:=z5V (hs.q0m fM) ht hk 16;cases c2:q66 16 (sOf L) with
  |false=>
   rw[c2]at r2;have e:z2K k (sOf L)=false:=by unfold z2K;rw[c1,c2];rfl
   rw[e];refine⟨.sl none 0 0 0 true,M1,none,?_,.inl ⟨⟨_,_,rfl⟩,rfl,rfl⟩,fM.step0 f2,by simp⟩;simp only[j4B (H:=H50) rfl,F18,q1,p1,q0b,ifV,unA,q0f,eb,<-hM,lM,r1,xbt,r2,xbf];rfl
  |true=>
   rw[c2]at r2;have e:z2K k (sOf L)=true:=by unfold z2K;rw[c1,c2];rfl
   obtain⟨l1,l2,l3⟩:=a8L ok ht e;rw[e];have hs1:=(hs.q0m fM).q0m f2;obtain⟨s,m',rb,e3,w3,f3,o3⟩:=b3J (m:=M1) (q:=m.next) ⟨f2.get gM (by simp),(hb.p.q0m fM).q0m f2,(hb.q.q0m fM).q0m f2,(hb.a.q0m fM).q0m f2⟩ hs1.t hs1.k l3 l2 (by show (z2F k (sOf L)).length+100<=q0j;omega)
   refine⟨s,m',rb,?_,by rw[xAb rfl];exact w3,(fM.step0 f2).step0 f3,fun c hc=>xnt0 (fM.step0 f2).next (o3 c hc)⟩
   simp only[j4B (H:=H50) rfl,F18,q1,p1,q0b,ifV,unA,q0f,eb,<-hM,lM,r1,xbt,r2,e3];rfl
end
end
section
open Go Go.Abs
set_option maxRecDepth 20000
set_option maxHeartbeats 800000
section
variable {B:List UInt8} {st:RS}
theorem q5M:(q3e B st).1.ok:=by
 have h1:=q1A (B:=B) (st:=st) (most:=18446744073709551615) (by omega) (by omega);have h2:=q1A (B:=B) (st:=(z0e B st).2) (most:=18446744073709551615) (by omega) (by omega);have h3:=z6j h1.1 (by omega);exact⟨h3.1,h3.2,h2.1,by show (q1a B 18446744073709551615 (z0e B st).2).1<_;omega⟩
theorem q61 {α:Type} {f:RS->α×RS} {Q:α->Prop} (h:∀s,Q (f s).1):∀n s,∀x∈(q2K f n s).1,Q x
 | 0,s,x,hx=>by simp[q2K]at hx
 |n+1,s,x,hx=>by
  unfold q2K at hx;rcases xmk0.1 hx with rfl|hx
  ·exact h s
  ·exact q61 h n _ x hx
theorem q9D {α:Type} {f:RS->α×PS} {Q:α->Prop} (h:∀s,Q (f s).1):∀n s,∀x∈(q2Q f n s).1,Q x
 | 0,s,x,hx=>by simp[q2Q]at hx
 |n+1,s,x,hx=>by
  unfold q2Q at hx;by_cases c:s.e=0
  ·rw[xAa (by simpa using c)]at hx;rcases xmk0.1 hx with rfl|hx
   ·exact h s.rs
   ·exact q9D h n _ x hx
  ·rw[xAb c]at hx;simp at hx
theorem z2j {α:Type} {f:RS->α×PS}:∀n s,(q2Q f n s).1.length<=n
 | 0,s=>by simp[q2Q]
 |n+1,s=>by
  unfold q2Q;by_cases c:s.e=0
  ·rw[xAa (by simpa using c)];have:=z2j (f:=f) n (f s.rs).2;simp only[xAi];omega
  ·rw[xAb c];simp
theorem z9W:((q1g B 3 st).1.length:Int)<=3:=z9X (by omega) (by omega)
theorem b0V:(b5B B st).1.ty:=by
 have h1:=q2S (B:=B) (st:=st) (most:=99);have h2:=q1A (B:=B) (st:=(q1L B 99 st).2) (most:=18446744073709551615) (by omega) (by omega);have h3:=q2S (B:=B) (st:=(q1a B q0M (q1L B 99 st).2).2) (most:=18);exact⟨⟨by show _<=(q1L B 99 st).1;omega,by show (q1L B 99 st).1<_;omega⟩,⟨h2.1,by show (q1a B 18446744073709551615 (q1L B 99 st).2).1<_;omega⟩,q5M,⟨by show _<=(q1L B 18 (q1a B q0M (q1L B 99 st).2).2).1;omega,by show (q1L B 18 (q1a B q0M (q1L B 99 st).2).2).1<_;omega⟩⟩
theorem j9Y:j1H.ty:=⟨by decide,by decide,⟨by decide,by decide,by decide,by decide⟩,by decide⟩
theorem a8F (t:List UInt8):(q95 t).1.ty:=by
 unfold q95;simp only;split
 ·exact j9Y
 ·exact b0V
theorem z5k:0<=(q1a B q0M st).1/\(q1a B q0M st).1<18446744073709551616:=by
 have:=q1A (B:=B) (st:=st) (most:=18446744073709551615) (by omega) (by omega);exact⟨this.1,by show (q1a B 18446744073709551615 st).1<_;omega⟩
theorem a3R:(q4o B st).1.ty:=by
 unfold q4o;simp only;split
 ·exact⟨z5k,j9Y⟩
 ·exact⟨z5k,a8F _⟩
theorem a3S:(q7z B st).1.ty:=⟨z5k,z5k,z5k,fun k hk=>q9D (Q:=q1d.ty) (fun s=>a3R) _ _ k hk⟩
theorem j9I:(q7z B st).1.kept.length<=4:=by
 have h:=z2j (f:=q4o B) (q1a B 4 (q1a B q0M (q1a B q0M (q1a B q0M st).2).2).2).1.toNat ⟨(q1a B 4 (q1a B q0M (q1a B q0M (q1a B q0M st).2).2).2).2,0⟩;have h2:=q1A (B:=B) (st:=(q1a B q0M (q1a B q0M (q1a B q0M st).2).2).2) (most:=4) (by omega) (by omega);show (q2Q (q4o B) _ _).1.length<=4;omega
theorem z2o {most:Int} (h0:0<=most) (h1:most<18446744073709551616) {α:Type} {f:RS->α×RS}:((q2K f (q1a B most st).1.toNat (q1a B most st).2).1.length:Int)<=most:=by
 rw[z5x];exact a4a h0 h1
theorem z9V:q8z (q5T B st).1:=by
 have lp:((q5T B st).1.q0d.length:Int)<=8:=z2o (by omega) (by omega);have lq:((q5T B st).1.pairs.length:Int)<=64:=z2o (by omega) (by omega);have la:((q5T B st).1.q0s.length:Int)<=64:=z2o (by omega) (by omega);refine⟨⟨by omega,by omega,by omega⟩,?_,?_,?_,z5k⟩
 ·exact q61 (Q:=fun p:q0v=>p.out.ok/\p.name.length<4611686018427387904) (fun s=>⟨q5M,by have:=z9W (B:=B) (st:=s);show (q1g B 3 s).1.length<_;omega⟩) _ _
 ·exact q61 (Q:=fun q:q0D=>q.rate.ok/\q.inx.ok/\q.q2I.ok/\q.x.length<4611686018427387904/\q.y.length<4611686018427387904) (fun s=>⟨q5M,q5M,q5M,by have:=z9W (B:=B) (st:=s);show (q1g B 3 s).1.length<_;omega,by have:=z9W (B:=B) (st:=(q1g B 3 s).2);show (q1g B 3 (q1g B 3 s).2).1.length<_;omega⟩) _ _
 ·exact q61 (Q:=fun a:q1v=>a.bal.ok/\0<=a.id/\a.id<18446744073709551616/\a.q1U.length<4611686018427387904) (fun s=>⟨q5M,z5k.1,z5k.2,by have:=z9W (B:=B) (st:=(q1a B q0M s).2);show (q1g B 3 (q1a B q0M s).2).1.length<_;omega⟩) _ _
end
def z8Y (B:List UInt8):Int:=
 if 32768<B.length then 12 else
 if q7A B (z9U B ⟨0,0⟩).2≠0 then q7A B (z9U B ⟨0,0⟩).2 else
 if z2K (z9U B ⟨0,0⟩).1.1 (z9U B ⟨0,0⟩).1.2=true then 0 else 11
abbrev q9B:LSt:=⟨[],[],[],0,64⟩
structure a4Q (m':Mem) (B:List UInt8) (sp sq sa ss:AV) (k:LSt) (L:List (q0L×AV)):Prop where
 b:BkV m' sp sq sa k
 s:SsV m' ss L
 ok:z8Y B=0->k=(z9U B ⟨0,0⟩).1.1/\sOf L=(z9U B ⟨0,0⟩).1.2
 no:z8Y B≠0->k=q9B/\L=[]
 bo:q8z k
 t:∀x∈L,x.1.ty/\x.1.kept.length<=4
 n:L.length<=16
theorem j9t:q8z q9B:=⟨⟨by decide,by decide,by decide⟩,by simp,by simp,by simp,by decide⟩
theorem a4Q.none {m:Mem} {B:List UInt8} (h:z8Y B≠0):a4Q m B (.sl none 0 0 0 true) (.sl none 0 0 0 true) (.sl none 0 0 0 true) (.sl none 0 0 0 true) q9B []:=
 ⟨⟨(q08.nil _ _ _ _).v,(q08.nil _ _ _ _).v,(q08.nil _ _ _ _).v⟩,⟨(q08.nil _ _ _ _).v,by simp⟩,fun h'=>absurd h' h,fun _=>⟨rfl,rfl⟩,j9t,by simp,by simp⟩
theorem j4f {m:Mem} {x:AV} {B:List UInt8} (hx:Sl m x (u8 B)) (hl:B.length<4611686018427387904) :
  ∃sp sq sa ss k L m',run E50 (.fn 24) [x] m=some (.tup [.agg [sp,sq,sa,.int .u64 k.latest],ss,.int .i64 (z8Y B)],m')/\a4Q m' B sp sq sa ss k L/\Fr m m' []:=by
 obtain⟨Z,hZ⟩:∃Z:List AV,Z=[.sl none 0 0 0 true,.sl none 0 0 0 true,.sl none 0 0 0 true,.int .u64 0]:=⟨_,rfl⟩;have hZl:Z.length=4:=by rw[hZ];rfl
 have hZ1:Z.all AV.one=true:=by rw[hZ];rfl
 obtain⟨m1,hm1⟩:∃m1,m1=m.lay (.cells Z false):=⟨_,rfl⟩;have f1:Fr m m1 []:=hm1▸(Fr.refl m).lay _;have n1:m1.next=m.next+1:=by rw[hm1];simp
 have g1:m1.get m.next=some (.cells Z false):=by rw[hm1];exact q0k _ _
 have eZ:(.cells [.sl none 0 0 0 true,.sl none 0 0 0 true,.sl none 0 0 0 true,.int .u64 0] false:Blk)=.cells Z false:=by rw[hZ]
 have aZ:AV.agg [.sl none 0 0 0 true,.sl none 0 0 0 true,.sl none 0 0 0 true,.int .u64 0]=.agg Z:=by rw[hZ]
 have hlen:=q3j hx;have no:∀{M:Mem} {e:Int},M.get m.next=some (.cells Z false)->Fr m M []->z8Y B=e->e≠0->
   ∃M',stV M (.ptr (some ⟨m.next,0⟩)) (.agg Z) 4=some M'/\ldN M' (.ptr (some ⟨m.next,0⟩)) 4=some (.agg Z)/\Fr m M' []:=by
  intro M e h1 h2 _ _;exact⟨_,q14 h1 hZl hZl hZ1,q0X (q0x h1) hZl,h2.step (Fr.put _ _ _) (fun c hc=>by simp at hc;exact .inr (by omega))⟩
 by_cases hbig:32768<B.length
 ·have hd:z8Y B=12:=by unfold z8Y;rw[xAb hbig]
  obtain⟨M',s2,l2,f2⟩:=no g1 f1 hd (by decide);refine⟨_,_,_,_,q9B,[],M',?_,a4Q.none (by rw[hd];decide),f2⟩;rw[hd];simp only[j4I (H:=H50) rfl,F24,pB,p1,p2,q0p,q0b,q0P,q0T,q0r,eZ,<-hm1,hlen,dt (show (32768:Int)<(B.length:Int) by omega),aZ,s2,l2]
 ·have hl2:B.length<=32768:=by omega
  have hmax:32768<=q0j:=by decide
  obtain⟨b,m2,rb,e2,r2,f2,lb,lr⟩:=j98 (hx.frame f1 (by simp)) hl (by omega);have n2:=f2.next
  have hb:=r2.blt;have hrl:=r2.rlt;obtain⟨m3,hm3⟩:∃m3,m3=m2.lay (.cells [.ptr (some ⟨b,0⟩),.int .i64 0] false):=⟨_,rfl⟩;have f3:Fr m2 m3 []:=hm3▸(Fr.refl m2).lay _;have n3:m3.next=m2.next+1:=by rw[hm3];simp
  have i3:q6k m3 m2.next b 0:=⟨by rw[hm3];exact q0k _ _,by omega⟩
  obtain⟨sp,sq,sa,m4,rp,rq,ra,e4,d4,f4,t4,u4,v4,o4⟩:=a3q i3 (r2.q0m f3) (by omega);obtain⟨kb,hkb⟩:∃kb,kb=q5T B ⟨0,0⟩:=⟨_,rfl⟩;rw[<-hkb]at e4 d4 t4 u4 v4;have n4:=f4.next
  have hone:[sp,sq,sa,AV.int .u64 kb.1.latest].all AV.one=true:=by
   simp only[xBq,t4.one,u4.one,v4.one,xCw];rfl
  obtain⟨m5,hm5⟩:∃m5,m5=m4.lay (.cells [sp,sq,sa,.int .u64 kb.1.latest] false):=⟨_,rfl⟩;have f5:Fr m4 m5 []:=hm5▸(Fr.refl m4).lay _;have n5:m5.next=m4.next+1:=by rw[hm5];simp
  have g5:m5.get m4.next=some (.cells [sp,sq,sa,.int .u64 kb.1.latest] false):=by rw[hm5];exact q0k _ _
  have s5:stV (m4.lay (.cells Z false)) (.ptr (some ⟨m4.next,0⟩)) (.agg [sp,sq,sa,.int .u64 kb.1.latest]) 4=some m5:=by
   rw[(q1T (m:=m4) (zs:=Z) (cs:=[sp,sq,sa,.int .u64 kb.1.latest]) (n:=4) hZl rfl hone).1,hm5]
  have i5:q6k m5 m2.next b 0:=⟨f5.get (f4.get i3.1 (by simp;omega)) (by simp),i3.2⟩
  obtain⟨ss,L,r,m6,e6,i6,d6,f6,hL,S6⟩:=a3t i5 (d4.q0m f5) (fun hc=>by have:=hrl _ hc;omega) hl2
  obtain⟨P,hP⟩:∃P,P=q3N B kb.2:=⟨_,rfl⟩;rw[<-hP]at i6 d6 hL;have n6:=f6.next
  have old:∀{rr:Option Nat},(∀c,rr=some c->m3.next<=c/\c<m4.next)->∀c,rr=some c->c∉[m2.next,b]:=fun h c hc=>by
   have:=h c hc;simp;omega
  have lt4:∀c,(rp=some c\/rq=some c\/ra=some c)->m3.next<=c/\c<m4.next:=fun c hc=>⟨o4 c hc,by
   rcases hc with h|h|h
   ·rw[h]at t4;exact t4.lt
   ·rw[h]at u4;exact u4.lt
   ·rw[h]at v4;exact v4.lt⟩
  have bv:BkV m6 sp sq sa kb.1:=⟨((t4.frame f5 (by simp)).frame f6 (old (fun c hc=>lt4 c (.inl hc)))).v,((u4.frame f5 (by simp)).frame f6 (old (fun c hc=>lt4 c (.inr (.inl hc))))).v,((v4.frame f5 (by simp)).frame f6 (old (fun c hc=>lt4 c (.inr (.inr hc))))).v⟩
  have sv:=S6.v;have hsO:sOf (L.map fun x=>(x.1,x.2.1))=P.1:=by rw[<-hL];simp[sOf]
  have F6:Fr m m6 []:=((((f1.step0 f2).step0 f3).step f4 (fun c hc=>by simp at hc;exact .inr (by omega))).step0 f5).step f6 (fun c hc=>by simp at hc;exact .inr (by omega))
  have g6:m6.get m.next=some (.cells Z false):=f6.get (f5.get (f4.get (f3.get (f2.get g1 (by simp)) (by simp)) (by simp;omega)) (by simp)) (by simp;omega)
  have k6:m6.get m4.next=some (.cells [sp,sq,sa,.int .u64 kb.1.latest] false):=f6.get g5 (by simp;omega)
  have lk:∀{M:Mem},Fr m6 M []->ldN M (.ptr (some ⟨m4.next,0⟩)) 4=some (.agg [sp,sq,sa,.int .u64 kb.1.latest]):=fun h=>q0X (h.get k6 (by simp)) rfl
  have hsim:=z2k B kb.2;rw[<-hP]at hsim;have hall:(z9U B ⟨0,0⟩).2=P.2.c:=by rw[<-hsim.1,hkb];rfl
  have hend:q7A B (z9U B ⟨0,0⟩).2=if P.2.e≠0 then P.2.e else q7A B P.2.rs:=by rw[hall,b7p]
  obtain⟨e,he⟩:∃e,e=q7A B (z9U B ⟨0,0⟩).2:=⟨_,rfl⟩;rw[<-he]at hend;have hP16:P.1.length<=16:=by
   have h:=z2j (f:=q7z B) (q1a B 16 kb.2).1.toNat ⟨(q1a B 16 kb.2).2,0⟩;have h2:=q1A (B:=B) (st:=kb.2) (most:=16) (by omega) (by omega);rw[hP];show (q2Q (q7z B) _ _).1.length<=16;omega
  have hL16:L.length<=16:=by rw[<-hL]at hP16;simpa using hP16
  have hPt:∀x∈P.1,x.ty/\x.kept.length<=4:=by
   rw[hP];exact q9D (Q:=fun x:q0L=>x.ty/\x.kept.length<=4) (fun s=>⟨a3S,j9I⟩) _ _
  have hLt:∀x∈(L.map fun x=>(x.1,x.2.1)),x.1.ty/\x.1.kept.length<=4:=fun x hx=>hPt _ (by rw[<-hsO];exact xCe hx)
  have hkm:kb.1.most=64:=by rw[hkb];rfl
  have tail:∀E:Int,E=e->∃sp' sq' sa' ss' k' L' m',D50.gor 98305 [.ptr (some ⟨m.next,0⟩),.ptr (some ⟨m4.next,0⟩),ss,.int .i64 E] m6=some (.tup [.agg [sp',sq',sa',.int .u64 k'.latest],ss',.int .i64 (z8Y B)],m')/\a4Q m' B sp' sq' sa' ss' k' L'/\Fr m m' []:=by
   intro E hE;subst hE;by_cases h0:E=0
   ·subst h0;have hPe:P.2.e=0:=by
     by_cases c:P.2.e=0
     ·exact c
     ·rw[xAb c]at hend;exact absurd hend.symm c
    have ok1:(z9U B ⟨0,0⟩).1.1=kb.1:=by rw[hkb];rfl
    have ok2:(z9U B ⟨0,0⟩).1.2=P.1:=by rw[<-hsim.2 hPe,hkb];rfl
    have r1:=z95 (H:=H50) rfl bv (by rw[hkb];exact z9V) m6 (Fr.refl m6);rw[hkm]at r1;have hdn:∀c:Bool,z2K kb.1 P.1=c->z8Y B=if c=true then 0 else 11:=by
     intro c hc;unfold z8Y;rw[xAa hbig,<-he,xAa (by simp),ok1,ok2,hc]
    cases c1:q5h kb.1 with
    |false=>
     rw[c1]at r1;have hd:=hdn false (by unfold z2K;rw[c1];rfl);obtain⟨M',s2,l2,f2'⟩:=no g6 F6 hd (by decide);refine⟨_,_,_,_,q9B,[],M',?_,a4Q.none (by rw[hd];decide),f2'⟩;rw[hd];simp only[q8d (H:=H50),j0s,p2,q1,p1,q0b,ifV,unA,q0r,xAn,lk (Fr.refl m6),r1,xbf,q8e (H:=H50),j0t,q0p,q0P,q0T,q0r,show decide ((11:Int)=0)=false from rfl,aZ,s2,l2]
     rfl
    |true=>
     rw[c1]at r1;obtain⟨M1,r2',f2'⟩:=z5V sv (fun x hx=>(hLt x hx).1) (fun x hx=>by have:=(hLt x hx).2;omega) 16
     rw[hsO]at r2';have g7:=f2'.get g6 (by simp);cases c2:q66 16 P.1 with
     |false=>
      rw[c2]at r2';have hd:=hdn false (by unfold z2K;rw[c1,c2];rfl);obtain⟨M',s2,l2,f3'⟩:=no g7 (F6.step0 f2') hd (by decide);refine⟨_,_,_,_,q9B,[],M',?_,a4Q.none (by rw[hd];decide),f3'⟩;rw[hd];simp only[q8d (H:=H50),j0s,p2,q1,p1,q0b,ifV,unA,q0r,xAn,lk (Fr.refl m6),r1,xbt,r2',xbf,q8e (H:=H50),j0t,q0p,q0P,q0T,q0r,show decide ((11:Int)=0)=false from rfl,aZ,s2,l2]
      rfl
     |true=>
      rw[c2]at r2';have hd:=hdn true (by unfold z2K;rw[c1,c2];rfl);have s7:=q14 g7 hZl (v:=[sp,sq,sa,.int .u64 kb.1.latest]) (n:=4) rfl hone;have fp:Fr M1 (M1.put m.next (some (.cells [sp,sq,sa,.int .u64 kb.1.latest] false))) [m.next]:=Fr.put _ _ _
      have l7:ldN (M1.put m.next (some (.cells [sp,sq,sa,.int .u64 kb.1.latest] false))) (.ptr (some ⟨m.next,0⟩)) 4=some (.agg [sp,sq,sa,.int .u64 kb.1.latest]):=q0X (q0x g7) rfl
      have nn:∀{c:Nat},m3.next<=c->c∉[m.next]:=fun h=>by simp;omega
      refine⟨sp,sq,sa,ss,kb.1,L.map fun x=>(x.1,x.2.1),_,?_,⟨?_,?_,fun _=>⟨ok1.symm,by rw[ok2,hsO]⟩,fun h=>absurd hd (by rw[xAb rfl];exact h),by rw[hkb];exact z9V,hLt,by simpa using hL16⟩,(F6.step0 f2').step fp (fun c hc=>by simp at hc;exact .inr (by omega))⟩
      ·rw[hd];simp only[q8d (H:=H50),j0s,p2,q1,p1,q0b,ifV,unA,q0r,xAn,lk (Fr.refl m6),r1,xbt,r2',q8e (H:=H50),j0t,q0p,q0P,q0T,q0r,a2C (H:=H50),a7w,q0r,lk f2',s7,l7]
      ·exact⟨((((t4.frame f5 (by simp)).frame f6 (old (fun c hc=>lt4 c (.inl hc)))).frame f2' (by simp)).frame fp (fun c hc=>nn (lt4 c (.inl hc)).1)).v,((((u4.frame f5 (by simp)).frame f6 (old (fun c hc=>lt4 c (.inr (.inl hc))))).frame f2' (by simp)).frame fp (fun c hc=>nn (lt4 c (.inr (.inl hc))).1)).v,((((v4.frame f5 (by simp)).frame f6 (old (fun c hc=>lt4 c (.inr (.inr hc))))).frame f2' (by simp)).frame fp (fun c hc=>nn (lt4 c (.inr (.inr hc))).1)).v⟩
      ·exact((S6.frame f2' (by simp)).frame fp (by simp;omega)).v
   ·have hd:z8Y B=E:=by unfold z8Y;rw[xAa hbig,<-he,xAb h0]
    obtain⟨M',s2,l2,f2'⟩:=no g6 F6 hd h0;refine⟨_,_,_,_,q9B,[],M',?_,a4Q.none (by rw[hd];exact h0),f2'⟩;rw[hd];simp only[q8d (H:=H50),j0s,p2,q1,p1,q0b,ifV,unA,q0r,df h0,q8e (H:=H50),j0t,q0p,q0P,q0T,q0r,xbf,aZ,s2,l2]
  have eb2:q00 (.agg [.ptr (some ⟨b,0⟩),.int .i64 0])=some (.cells [.ptr (some ⟨b,0⟩),.int .i64 0] false,fun b=>.ptr (some ⟨b,0⟩)):=by rfl
  by_cases hpe:P.2.e=0
  ·rw[xAa (by simpa using hpe)]at hend;have e7:=z2t d6;obtain⟨sp',sq',sa',ss',k',L',m',x1,x2,x3⟩:=tail (q7A B P.2.rs) hend.symm;refine⟨sp',sq',sa',ss',k',L',m',?_,x2,x3⟩;simp only[j4I (H:=H50) rfl,F24,pB,p1,p2,q0p,AV.cells,Nat.reduceAdd,Nat.reduceLeDiff,q0b,q0P,q0T,q0r,eZ,<-hm1,hlen,df (show ¬(32768:Int)<(B.length:Int) by omega),z9o (H:=H50),a03,q1,nnA,q0r,e2,eb2,<-hm3,e4,s5,e6,q0e i6.1,dt hpe,e7,x1]
  ·rw[xAb hpe]at hend;obtain⟨sp',sq',sa',ss',k',L',m',x1,x2,x3⟩:=tail P.2.e hend.symm;refine⟨sp',sq',sa',ss',k',L',m',?_,x2,x3⟩;simp only[j4I (H:=H50) rfl,F24,pB,p1,p2,q0p,AV.cells,Nat.reduceAdd,Nat.reduceLeDiff,q0b,q0P,q0T,q0r,eZ,<-hm1,hlen,df (show ¬(32768:Int)<(B.length:Int) by omega),z9o (H:=H50),a03,q1,nnA,q0r,e2,eb2,<-hm3,e4,s5,e6,q0e i6.1,df hpe,x1]
end
section
open Go Go.Abs
set_option maxRecDepth 20000
set_option maxHeartbeats 800000
structure By (m0 m:Mem) (b p:Nat) (B:List UInt8) (st:RS) (rb:Option Nat) (cs:List AV):Prop where
 rd:q2s m b B st rb
 bx:m.get p=some (.cells cs false)
 fr:Fr m0 m [b]
 np:m0.next<=p
 ob:b<m0.next
 or:∀c,rb=some c->c<m0.next
section
variable {m0 m m':Mem} {b p:Nat} {B:List UInt8} {st st':RS} {rb:Option Nat} {cs ds:List AV}
theorem By.new (hr:q2s m b B st rb) (hf:Fr m0 m [b]) (ob:b<m0.next) (or:∀c,rb=some c->c<m0.next) (cs:List AV):By m0 (m.lay (.cells cs false)) b m.next B st rb cs:=by
 have f:Fr m (m.lay (.cells cs false)) []:=(Fr.refl m).lay _;exact⟨hr.q0m f,q0k _ _,hf.step0 f,hf.next,ob,or⟩
end
section
variable {m:Mem} {b q:Nat} {B:List UInt8} {st:RS} {rb:Option Nat} {qs:List AV} {s:AV} {r:Option Nat}
structure Qs (m:Mem) (b q j n:Nat) (B:List UInt8) (st:RS) (rb:Option Nat) (qs:List AV) (s:AV) (l:List (List AV)) (r:Option Nat):Prop where
 rd:q2s m b B st rb
 gq:m.get q=some (.cells qs false)
 gj:qs[j]? = some s
 t:q08 n m s l r
 rq:r≠some q
 br:some b≠r
 bq:b≠q
 rr:rb≠some q/\∀c,rb=some c->r≠some c
theorem Qs.by {j n:Nat} {l:List (List AV)} (h:Qs m b q j n B st rb qs s l r) {m1:Mem} {st':RS} (hr:q2s m1 b B st' rb) (hf:Fr m m1 [b]) (cs:List AV):By m (m1.lay (.cells cs false)) b m1.next B st' rb cs:=
 .new hr hf h.rd.blt h.rd.rlt cs
section
variable {t2:AV} {G:Int->Mem->R}
end
end
end
section
open Go Go.Abs
set_option maxRecDepth 20000
set_option maxHeartbeats 800000
theorem b3I {k:LSt} {l:List q0L} (h64:k.most=64) (hb:q8A k) (hl:(l.length:Int)<=16/\∀s∈l,s.ok) (he:z2K k l=true):z8Y (z2F k l)=0/\(z9U (z2F k l) ⟨0,0⟩).1=(k,l):=by
 have e:=a8A.fwd (z2F k l) 0 (k,l) [] (by simp) ⟨⟨hb,h64⟩,hl⟩;have hlen:=z2G hb hl.1 hl.2;have e':z9U (z2F k l) ⟨0,0⟩=((k,l),⟨(z2F k l).length,0⟩):=by rw[e];simp
 have hE:q7A (z2F k l) ⟨(z2F k l).length,0⟩=0:=by unfold q7A;simp
 refine⟨?_,by rw[e']⟩;unfold z8Y;rw[e',xAa (by omega)];simp only[hE];rw[xAa (by simp),xAb he]
theorem b7v {st:LSt} (g:q5S st):q5S {st with most:=64} where
 w:={sp:=g.w.sp,lp:=g.w.lp,sq:=g.w.sq,lq:=g.w.lq,sa:=g.w.sa,la:=g.w.la,okp:=g.w.okp,okq:=g.w.okq,oka:=g.w.oka,lat:=g.w.lat}
 am:=by have:=g.w.la;show (st.q0s.length:Int)<=64;omega
 mo:=by show (1:Int)<=64/\(64:Int)<=64;omega
 a1:=g.a1
 q1:=g.q1
 su:=g.su
theorem j1v (k:LSt):z2z k k=true:=by simp[z2z]
section
variable {m m':Mem} {s:AV} {B:List UInt8}
end
end
section
theorem a0w {m:Mem} {cs:List AV} (hc:cs.length=4) (ho:cs.all AV.one=true):stV (m.lay (.cells [.sl none 0 0 0 true,.sl none 0 0 0 true,.sl none 0 0 0 true,.int .u64 0] false)) (.ptr (some ⟨m.next,0⟩)) (.agg cs) 4=some (m.lay (.cells cs false)):=(q1T rfl hc ho).1
theorem b8l (C:List (q0L×AV×Option Nat)):sOf (C.map fun x=>(x.1,x.2.1))=C.map Prod.fst:=by simp[sOf]
theorem a8l (m:Mem) {sl:AV} {acts:List (Int×Int×Int×Int)} (hv:j1G 4 m sl (acts.map a8j)) (hN:∀a∈acts,i64 a.2.2.2) (hco:∃ro,m.get 0=some (.cells j0M ro))
  {ss:AV} {L:List (q0L×AV)} (hs:SsV m ss L) (ht:∀x∈L,x.1.ty) (hL:L.length<4611686018427387904) :
  ∃m',run E50 (.fn 5) [sl,ss] m=some (.bool true,m'):=by
 obtain⟨st,sp,sq,sa,m1,h1,g0,hmost,hbk,f1⟩:=a3o hv hN hco (most:=8) (by omega);have h1':=(j1k (H:=H50) (f:=14) rfl _ _).trans h1;have g:=b7v g0;obtain⟨k,hk⟩:∃k:LSt,k={st with most:=64}:=⟨_,rfl⟩
 rw[<-hk]at g;have hkl:k.latest=st.latest:=by rw[hk]
 have bv:BkV m1 sp sq sa k:=by rw[hk];exact⟨hbk.v.p,hbk.v.q,hbk.v.a⟩
 have ok:=j9D g;have rk:=z5K g;have h64:k.most=64:=by rw[hk]
 rw[<-hkl]at h1';have hone:=bv.one k.latest;obtain⟨M2,hM2⟩:∃M2,M2=m1.lay (.cells [sp,sq,sa,.int .u64 k.latest] false):=⟨_,rfl⟩;have f2:Fr m1 M2 []:=hM2▸(Fr.refl m1).lay _;have g2:M2.get m1.next=some (.cells [sp,sq,sa,.int .u64 k.latest] false):=by rw[hM2];exact q0k _ _
 have s2:=a0w (m:=m1) (cs:=[sp,sq,sa,.int .u64 k.latest]) rfl hone;rw[<-hM2]at s2;have lk:∀{M:Mem},Fr M2 M []->ldN M (.ptr (some ⟨m1.next,0⟩)) 4=some (.agg [sp,sq,sa,.int .u64 k.latest]):=fun h=>q0X (h.get g2 (by simp)) rfl
 obtain⟨s,C,r,M3,e3,S3,f3,r3,t3⟩:=a3p (most:=9) (hs.q0m (f1.step0 f2)) ht hL (by omega);have V3:=S3.v;have hC:sOf (C.map fun x=>(x.1,x.2.1))=C.map Prod.fst:=b8l C
 have he:z2K k (C.map Prod.fst)=true:=by unfold z2K;rw[rk,r3];rfl
 have tC:∀x∈(C.map fun x=>(x.1,x.2.1)),x.1.ty:=fun x hx=>by
  obtain⟨y,hy,rfl⟩:=xBr.1 hx;exact t3 y hy
 have okS:=z5J r3 (fun x hx=>by obtain⟨y,hy,rfl⟩:=xBr.1 hx;exact t3 y hy)
 have kC:∀x∈(C.map fun x=>(x.1,x.2.1)),x.1.kept.length<=4:=fun x hx=>by
  have:=(okS.2 x.1 (by rw[<-hC];exact xCe hx)).2.2.2.1;omega
 have lC:(C.map fun x=>(x.1,x.2.1)).length<=16:=by have:=okS.1;simp at this⊢;omega
 have hmax:4096<=q0j:=by decide
 obtain⟨tp,tq,ta,rp,rq,ra,M4,e4,t4,u4,v4,f4,_⟩:=a8D (bv.q0m (f2.step0 f3)) g.w;have bt:BkV M4 tp tq ta k:=⟨t4.v,u4.v,v4.v⟩;obtain⟨s5,C5,r5,M5,e5,S5,f5,h5⟩:=a1S (V3.q0m f4) (fun x hx=>by have:=kC x hx;omega) (by omega)
 have V5:=S5.v;have hC5:sOf (C5.map fun x=>(x.1,x.2.1))=C.map Prod.fst:=by rw[b8l,h5,hC]
 have m5:∀x∈(C5.map fun x=>(x.1,x.2.1)),x.1∈C.map Prod.fst:=fun x hx=>by rw[<-hC5];exact xCe hx
 have t5:∀x∈(C5.map fun x=>(x.1,x.2.1)),x.1.ty:=fun x hx=>by
  obtain⟨y,hy,e⟩:=xBr.1 (m5 x hx);rw[<-e];exact t3 y hy
 obtain⟨x,M6,rb,e6,w6,f6,o6⟩:=j4r (bt.q0m f5) ok h64 V5 t5 (fun x hx=>by have:=(okS.2 x.1 (m5 x hx)).2.2.2.1;omega)
 rw[hC5]at e6 w6;unfold j4q at e6;unfold z1v at w6;rw[xAb he]at e6 w6;have hbok:=z3l ok rk;have hlen:=z2G hbok okS.1 okS.2;obtain⟨d1,d2⟩:=b3I h64 hbok okS he;obtain⟨dp,dq,da,ds,dk,D,M7,e7,R7,f7⟩:=j4f w6.sl (by omega);rw[d1]at e7;obtain⟨ok1,ok2⟩:=R7.ok d1;rw[d2]at ok1 ok2;simp only at ok1 ok2;obtain⟨M8,hM8⟩:∃M8,M8=M7.lay (.cells [dp,dq,da,.int .u64 dk.latest] false):=⟨_,rfl⟩
 have f8:Fr M7 M8 []:=hM8▸(Fr.refl M7).lay _;have s8:=a0w (m:=M7) (cs:=[dp,dq,da,.int .u64 dk.latest]) rfl (R7.b.one dk.latest);rw[<-hM8]at s8;have l8:ldN M8 (.ptr (some ⟨M7.next,0⟩)) 4=some (.agg [dp,dq,da,.int .u64 dk.latest]):=by rw[hM8];exact q0X (q0k _ _) rfl
 have F38:Fr M3 M8 []:=(((f4.step0 f5).step0 f6).step0 f7).step0 f8;have F28:Fr M2 M8 []:=f3.step0 F38;have sm:=b1j (H:=H50) rfl (bv.q0m (f2.step0 F28)) (R7.b.q0m f8) ok.small M8 (Fr.refl M8);rw[ok1,j1v]at sm;have ss8:=a4C (V3.q0m F38) (R7.s.q0m f8) (by rw[hC,ok2]) (fun x hx=>by have:=kC x hx;omega) (by omega)
 have hl6:=q3j (w6.sl.frame (f7.step0 f8) (by simp));have kn:=a3v (H:=H50) rfl M8;have le0:decide (((z2F k (C.map Prod.fst)).length:Int)<=32768)=true:=dt (by omega);rw[ok1]at e7 l8 s8;refine⟨M8,?_⟩;simp only[b7s (H:=H50) rfl,F5,pB,q1,p1,p2,q0q,ifV,w_5,h1',s2,show run E50 (.fn 15) [ss,.int .i64 9] M2=some (s,M3) from e3,lk f3,e4,e5,e6,e7,s8,kn,xAn,hl6,le0,lk F28,l8,sm,ss8]
end
end Go.Proofs.YtkbhcgifnnhbaaaGreatDoor
namespace Go.Abs
open Go Go.ChangeShapes Go.WideShapes Go.ChangeAt Go.RowKit
section
theorem q7m {H:Type} {enc:TypeId×Value->H} {a:Assume} {C:Checked} {os:Os} {f:FuncId} {fn:Func} {s:ChangeSpec} {conds:List PathCond} {apart fresh handsOn again:Bool} {X:World->Array Value->Prop}
  (hX:∀(w w':World) (args:Array Value),w.heap=w'.heap->X w args->X w' args)
  (own:ownKnob C.prog.godebug=none) (started:os.Started) (noInit:C.prog.inits.idxOf? f=none) (hfn:C.prog.funcs[f]? = some fn)
  (witness:∃(w:World) (tape:Tape) (i:Input),w.os=os/\(w.forCall tape i).Shaped C.prog/\i.vars=[]/\Input.okWide C.prog (w.forCall tape i) .any w.heap.size f i/\
   ((s.pre enc C.prog fn conds apart (w.forCall tape i).memory i.args/\X (w.forCall tape i).memory i.args)/\sizedMet enc C.prog fn (OpenSpec.ofChange s) apart (w.forCall tape i).memory i.args)/\a.holds C.prog (lone (Frame.enter C.prog f i.args .normal) [] (w.forCall tape i)))
  (contract:∀(W:World) (base:Nat) (args:Array Value) (ds gs:List (DataW H)) (before:List MemPlace),
   (∀(j:Nat) t v,fn.params[j]? = some t->args[j]? = some v->Value.okWide C.prog W .any base t v)->
   DataW.Whole enc C.prog fn.params.toList s.vars apart W args.toList ds gs before->
   conds.all (PathCond.test C.prog ⟨fn.params.toList,ds,s.plain.varTypes C.prog,gs⟩)=true->
   (DataW.weightsEach C.prog (fn.params.toList++s.plain.varTypes C.prog) (ds++gs)).all (·<=reachBytes)=true->X W args->W.ShapedOpen C.prog->
   a.holds C.prog (lone (Frame.enter C.prog f args .normal) [] W)->
   Calls C.prog f args W fun e W'=>∃v,e=.returned v/\s.post enc C.prog fn apart fresh handsOn again W args v W') :
  ReturnsInHanded a C os f .any (fun w args=>(s.pre enc C.prog fn conds apart w args/\X w args)/\sizedMet enc C.prog fn (OpenSpec.ofChange s) apart w args) (s.post enc C.prog fn apart fresh handsOn again):=by
 refine returnsInHanded_of_calls own started noInit witness ?_;intro w tape i _ hsh _ hok hpre hholds;obtain⟨_,_,_,fn',hfn',_,_,_,_,hval⟩:=hok;have e:fn'=fn:=xsj (hfn'.symm.trans hfn);subst e;obtain⟨⟨⟨ds,gs,before,hw,hc⟩,hx⟩,hz⟩:=hpre;have hw':=DataW.Whole.of_heap (w':=w.forCall tape i) (by rfl) hw;refine(contract (w.forCall tape i) w.heap.size i.args ds gs before hval hw' hc (hz.weights hw) (hX _ _ _ (by rfl) hx) hsh hholds).mono fun e W' ⟨v,he,hp⟩=>?_
 subst he;exact ChangeSpec.post_blind hp
section
variable {P:Program} {W:World} {H:Type} {enc:TypeId×Value->H} {t e:TypeId} {b:Nat} {sp:Nat->Bool} {held:Bool} {f n:Nat}
theorem j89 {cs:List Value} {ss:List (List UInt8)} {p:List MemPlace} (hd:DataW.trod enc P W b sp held f t cs=some (.agg (ss.map fun s=>.lit (.string s)),p)) (ht:P.underlying t=some (.array n e)) (he:P.underlying e=some .string) (hc:P.cellsOf e=1) (hct:P.cellsOf t=n) :
  cs.map (absP W)=ss.map AV.str:=by
 obtain⟨xs,m,rfl,hx,hl,hn,hel⟩:=DataW.trod_array ht hd;simp only[xBt,DataW.agg.injEq]at hx;have hxl:ss.length=n:=by have:=xFa List.length hx.1;simp at this;omega
 apply xCv;intro i;by_cases hi:i<n
 ·have h1:=hel i hi;rw[hc,xFf,xgq (by omega)]at h1;obtain⟨s,e1,e2,_⟩:=DataW.trod_string he h1;have h2:cs[i]? = some (.string s):=by
   have:((cs.drop i).take 1)[0]? = some (.string s):=by rw[e1];rfl
   rw[xBw,xAb (by omega),xBu,xna]at this;exact this
  have h3:ss[i]? = some s.data.toList:=by
   have h4:=xFa (fun l=>l[i]?) hx.1
   simp only[xBi]at h4;rw[xgq (by omega),xgq (by omega),e2]at h4;simp only[xom,xoi,DataW.lit.injEq,Lit.string.injEq]at h4;rw[xgq (by omega),h4]
  rw[xBi,xBi,h2,h3];rfl
 ·rw[xAu (by simp;omega),xAu (by simp;omega)]
theorem b1y {nm:String} {g:Nat} {cs:Array Value} (hg:P.globalNamed nm=some g) (h:W.var? P nm=some cs):(z1e W).get g=some (.cells (cs.toList.map (absP W)) true):=by
 simp only[World.var?,hg,xAr]at h;rw[q5w];unfold q5X;split at h
 ·rename_i e;cases h;rw[e]
 ·cases h
end
end
end Go.Abs
namespace Go.Proofs.YtkbhcgifnnhbaaaGreatDoor
open Go Go.Abs Go.ChangeShapes Go.WideShapes Go.ChangeAt Go.RowKit
set_option maxRecDepth 100000
section
theorem Tryz.b8V:ownKnob Tryz.prog.godebug=none:=by kernel_rfl
theorem Tryz.a3w:laidOutB TP=true:=by kernel_rfl
theorem a8o:Tryz.prog.globals.size<(begin TP (fun _ _=>0) default).world.heap.size:=xCk (by kernel_rfl)
abbrev j88 : List (String × DataW Unit) := [("bursar/bursarhand.coins", Rows.laid_bursar_bursarhand_coins)]
theorem a5L : TP.globalNamed "bursar/bursarhand.coins" = some 0 := by kernel_rfl
theorem b5c:(Tryz.prog.globals[0]?).map (·.type)=some 129:=by kernel_rfl
theorem a15 (os:Os) (args:Array Value):laidMetH TP j88 ((World.doorLaid TP 400 os).forCall (fun _ _=>0) ⟨#[],args,[]⟩).memory:=
 laidMetH_of_parts3 (fuel:=8) (laidMet_of_run' 8 (by kernel_rfl) (by kernel_rfl)) (by kernel_rfl) (by kernel_rfl)
theorem a1R {W:World} (h:laidMetH TP j88 W):∃ro,(z1e W).get 0=some (.cells j0M ro):=by
 rw[MakeChecks.laidMetH_plain _ _ _ (by kernel_rfl)]at h;obtain⟨ps,⟨g0,t0,cs0,f0,p0,q0,hg0,ht0,hv0,hd0,_,_⟩,_,_⟩:=h;obtain rfl:=xsj (a5L.symm.trans hg0);obtain rfl:=xsj (b5c.symm.trans ht0);have e:=j89 (n:=3) (e:=9) (ss:=[b0O,b0P,b0Q]) hd0 (by kernel_rfl) (by kernel_rfl) (by kernel_rfl) (by kernel_rfl);have g:=b1y a5L hv0;rw[e]at g;exact⟨true,g⟩
theorem a1v {W:World} {H:Type} {enc:TypeId×Value->H} {v:Value} {base:Nat} {d:DataW H} {p:List MemPlace} (h:Value.okWide TP W .any base 22 v) (hr:DataW.Trod enc TP W 0 (fun _=>true) true 22 v d p) :
  ∃l:List (Int×Int×Int×Int),j1G 4 (z1e W) (j0D W v) (l.map a8j)/\∀a∈l,i64 a.2.2.2:=by
 have hu:TP.underlying 22=some (.slice 127):=by kernel_rfl
 have hi:TP.underlying 3=some (.int .i64):=by kernel_rfl
 refine a1w (f:=a8j) (Q:=fun a=>i64 a.2.2.2) (n:=4) (by omega) hu (by kernel_rfl) h hr ?_ (fun a=>⟨rfl,rfl⟩)
 intro m cs y hl ht;have hst:∃fs,TP.underlying 127=some (.struct fs)/\∀k,k<4->∃g∈fs.toList,g.offset=k/\g.type=3:=by
  refine⟨_,rfl,?_⟩;intro k hk;have:k=0\/k=1\/k=2\/k=3:=by omega
  rcases this with rfl|rfl|rfl|rfl
  ·exact⟨_,xmc,rfl,rfl⟩
  ·exact⟨_,xBa _ xmc,rfl,rfl⟩
  ·exact⟨_,xBa _ (xBa _ xmc),rfl,rfl⟩
  ·exact⟨_,xBa _ (xBa _ (xBa _ xmc)),rfl,rfl⟩
 obtain⟨fs,hfs,hfl⟩:=hst;obtain⟨m',_,hel⟩:=trod_struct hfs ht;have hc1:TP.cellsOf 3=1:=by kernel_rfl
 have fld:∀k,k<4->∃n,cs[k]? = some (.int .i64 n)/\i64 n:=fun k hk=>by
  obtain⟨g,hg,h1,h2⟩:=hfl k hk;obtain⟨z,hz⟩:=hel g hg;rw[h1,h2,hc1,xAk (show k<cs.length by omega),xBk,xBp]at hz;obtain⟨n,e1,e2,e3⟩:=trod_int hi hz;have e4:IntKind.i64.min=-9223372036854775808:=by decide
  have e5:IntKind.i64.max=9223372036854775807:=by decide
  exact⟨n,by rw[xgq (by omega),e1],by unfold i64;omega⟩
 obtain⟨n0,e0,_⟩:=fld 0 (by omega);obtain⟨n1,e1,_⟩:=fld 1 (by omega);obtain⟨n2,e2,_⟩:=fld 2 (by omega);obtain⟨n3,e3,h3⟩:=fld 3 (by omega)
 match cs,hl,e0,e1,e2,e3 with
 |[a,b,c,d],_,e0,e1,e2,e3=>
  simp only[ge,xoi]at e0 e1 e2 e3;subst e0 e1 e2 e3;exact⟨(n0,n1,n2,n3),rfl,h3⟩
instance:Inhabited q0v:=⟨⟨[],0,⟨0,0⟩⟩⟩
instance:Inhabited q0D:=⟨⟨[],[],⟨0,0⟩,0,⟨0,0⟩,⟨0,0⟩⟩⟩
instance:Inhabited q1v:=⟨⟨0,[],⟨0,0⟩⟩⟩
theorem b1D:∃gs,TP.underlying 63=some (.struct gs)/\TP.cellsOf 63=2/\(∃g∈gs.toList,g.offset=0/\TP.underlying g.type=some (.int .i64)/\TP.cellsOf g.type=1)/\(∃g∈gs.toList,g.offset=1/\TP.underlying g.type=some (.int .u64)/\TP.cellsOf g.type=1):=
 ⟨_,rfl,by kernel_rfl,⟨_,xmc,rfl,rfl,by kernel_rfl⟩,⟨_,.tail _ xmc,rfl,rfl,by kernel_rfl⟩⟩
section
variable {W:World} {H:Type} {enc:TypeId×Value->H} {B m:Nat} {cs:List Value} {y:DataW H×List MemPlace}
end
instance:Inhabited q1d:=⟨⟨0,⟨0,0,⟨0,0⟩,0⟩⟩⟩
instance:Inhabited q0L:=⟨⟨0,0,0,[]⟩⟩
section
variable {W:World} {H:Type} {enc:TypeId×Value->H} {B m:Nat} {cs:List Value} {y:DataW H×List MemPlace}
theorem z6e {n:Int} (h:IntKind.u64.min<=n/\n<=IntKind.u64.max):0<=n/\n<18446744073709551616:=by
 have e3:IntKind.u64.min=0:=by decide
 have e4:IntKind.u64.max=18446744073709551615:=by decide
 omega
theorem a6A {n:Int} (h:IntKind.i64.min<=n/\n<=IntKind.i64.max):-9223372036854775808<=n/\n<9223372036854775808:=by
 have e3:IntKind.i64.min=-9223372036854775808:=by decide
 have e4:IntKind.i64.max=9223372036854775807:=by decide
 omega
theorem b03 (hl:cs.length=6) (ht:DataW.trod enc TP W 0 (fun _=>true) true m 143 cs=some y) (hB:∀k,k∈y.1.weights TP 143->k<=B):∃a:q1d,cs.map (absP W)=a.cells/\a.ty:=by
 obtain⟨gs,w1,w2,w3,w4⟩:=b1D;have hst:∃fs,TP.underlying 143=some (.struct fs)/\(∃g∈fs.toList,g.offset=0/\TP.underlying g.type=some (.int .u64)/\TP.cellsOf g.type=1)/\(∃g∈fs.toList,g.offset=1/\∃rs,TP.underlying g.type=some (.struct rs)/\TP.cellsOf g.type=5/\
   (∃g∈rs.toList,g.offset=0/\TP.underlying g.type=some (.int .i64)/\TP.cellsOf g.type=1)/\(∃g∈rs.toList,g.offset=1/\TP.underlying g.type=some (.int .u64)/\TP.cellsOf g.type=1)/\(∃g∈rs.toList,g.offset=2/\∃ms,TP.underlying g.type=some (.struct ms)/\TP.cellsOf g.type=3/\
    (∃g∈ms.toList,g.offset=0/\g.type=63)/\(∃g∈ms.toList,g.offset=2/\TP.underlying g.type=some (.int .i64)/\TP.cellsOf g.type=1))):=
  ⟨_,rfl,⟨_,xmc,rfl,rfl,by kernel_rfl⟩,⟨_,.tail _ xmc,rfl,_,rfl,by kernel_rfl,⟨_,xmc,rfl,rfl,by kernel_rfl⟩,⟨_,.tail _ xmc,rfl,rfl,by kernel_rfl⟩,⟨_,.tail _ (.tail _ xmc),rfl,_,rfl,by kernel_rfl,⟨_,xmc,rfl,rfl⟩,⟨_,.tail _ xmc,rfl,rfl,by kernel_rfl⟩⟩⟩⟩
 obtain⟨fs,hfs,q0,⟨g1,p1,p2,rs,p3,p4,q1,q2,⟨g2,p5,p6,ms,p7,p8,⟨g3,p9,p10,p11⟩,q3⟩⟩⟩:=hst;obtain⟨m',_,r⟩:=Rd.of hfs ht hB;obtain⟨n0,a0,b0⟩:=r.int q0 (by omega);obtain⟨m2,r2⟩:=r.sub (o:=1) (n:=5) ⟨g1,p1,p2,p3,p4⟩;have l2:((cs.drop 1).take 5).length=5:=by rw[xlt0,xld0];omega
 obtain⟨n1,a1,b1⟩:=r2.int q1 (by omega);obtain⟨n2,a2,b2⟩:=r2.int q2 (by omega);obtain⟨m3,r3⟩:=r2.sub (o:=2) (n:=3) ⟨g2,p5,p6,p7,p8⟩;have l3:((((cs.drop 1).take 5).drop 2).take 3).length=3:=by rw[xlt0,xld0];omega
 obtain⟨w,ok,a3,a4⟩:=r3.wide (o:=0) ⟨g3,p9,p10,by rw[p11];exact w1,by rw[p11];exact w2⟩ w3 w4 (by omega);obtain⟨n5,a5,b5⟩:=r3.int q3 (by omega);refine⟨⟨n0,⟨n1,n2,w,n5⟩⟩,?_,z6e b0,a6A b1,z6e b2,ok,a6A b5⟩
 match cs,hl with
 |[c0,c1,c2,c3,c4,c5],_=>
  simp only[ge,xBh,xAp,xBk,xBp,xoi]at a0 a1 a2 a3 a4 a5;subst a0 a1 a2 a3 a4 a5;rfl
def SOk (M:Mem) (B:Nat) (x:q0L×AV):Prop:=x.1.ty/\q2H 6 M x.2 (x.1.kept.map q1d.cells)/\x.1.kept.length*48<=B
theorem b04 (hl:cs.length=4) (ht:DataW.trod enc TP W 0 (fun _=>true) true m 141 cs=some y) (hB:∀k,k∈y.1.weights TP 141->k<=B):∃a:q0L×AV,cs.map (absP W)=q1k a.1 a.2/\SOk (z1e W) B a:=by
 have hst:∃fs,TP.underlying 141=some (.struct fs)/\(∃g∈fs.toList,g.offset=0/\TP.underlying g.type=some (.int .u64)/\TP.cellsOf g.type=1)/\(∃g∈fs.toList,g.offset=1/\TP.underlying g.type=some (.int .u64)/\TP.cellsOf g.type=1)/\(∃g∈fs.toList,g.offset=2/\TP.underlying g.type=some (.int .u64)/\TP.cellsOf g.type=1)/\(∃g∈fs.toList,g.offset=3/\g.type=139):=
  ⟨_,rfl,⟨_,xmc,rfl,rfl,by kernel_rfl⟩,⟨_,.tail _ xmc,rfl,rfl,by kernel_rfl⟩,⟨_,.tail _ (.tail _ xmc),rfl,rfl,by kernel_rfl⟩,⟨_,.tail _ (.tail _ (.tail _ xmc)),rfl,rfl⟩⟩
 obtain⟨fs,hfs,q0,q1,q2,g,p1,p2,p3⟩:=hst;obtain⟨m',_,r⟩:=Rd.of hfs ht hB;obtain⟨n0,a0,b0⟩:=r.int q0 (by omega);obtain⟨n1,a1,b1⟩:=r.int q1 (by omega);obtain⟨n2,a2,b2⟩:=r.int q2 (by omega);obtain⟨z,z1,z2⟩:=r g p1;rw[p2,p3,show TP.cellsOf 139=1 by kernel_rfl]at z1;rw[p3]at z2
 match cs,hl with
 |[c0,c1,c2,c3],_=>
  simp only[ge,xBh,xAp,xBk,xBp,xoi]at a0 a1 a2 z1;obtain⟨l,l1,l2,l3⟩:=z6c (α:=q1d) (f:=q1d.cells) (Q:=q1d.ty) (n:=6) (by omega) (show TP.underlying 139=some (.slice 143) by kernel_rfl) (by kernel_rfl) z1 z2 (fun m cs y hl ht hB=>b03 hl ht hB) (fun a ha=>⟨rfl,rfl⟩)
  rw[show TP.bytesOf 143=48 by kernel_rfl]at l3;refine⟨(⟨n0,n1,n2,l⟩,absP W c3),?_,⟨z6e b0,z6e b1,z6e b2,l2⟩,l1,l3⟩;subst a0 a1 a2;rfl
theorem a1x {v:Value} {base:Nat} {d:DataW H} {p:List MemPlace} (hk:Value.okWide TP W .any base 23 v) (h:DataW.Trod enc TP W 0 (fun _=>true) true 23 v d p) (hB:∀k,k∈d.weights TP 23->k<=B):∃L:List (q0L×AV),SsV (z1e W) (j0D W v) L/\(∀x∈L,x.1.ty)/\(∀x∈L,x.1.kept.length*48<=B)/\L.length*48<=B:=by
 have hu:TP.underlying 23=some (.slice 141):=by kernel_rfl
 obtain⟨m,h,e⟩:=b2U hu hk h;obtain⟨l,h1,h2,h3⟩:=z6c (α:=q0L×AV) (f:=fun x=>q1k x.1 x.2) (Q:=SOk (z1e W) B) (n:=4) (by omega) hu (by kernel_rfl) h hB (fun m cs y hl ht hB=>b04 hl ht hB) (fun a ha=>⟨rfl,by simp only[q1k,xBq,ha.2.1.one,xCw];rfl⟩)
 rw[show TP.bytesOf 141=48 by kernel_rfl]at h3;exact⟨l,⟨by rw[e];exact h1,fun x hx=>(h2 x hx).2.1⟩,fun x hx=>(h2 x hx).1,fun x hx=>(h2 x hx).2.2,h3⟩
end
end
section
theorem b2E:q07 E50:=b2D
set_option maxHeartbeats 2000000 in
theorem q70 (os:Os) (started:os.Started) (H:Type) (enc:TypeId×Value->H) :
  ReturnsInHanded {} Tryz.checked os 5 .any (fun w args=>(Rows.imageBackSpec.pre enc TP Tryz.f5 [] false w args/\laidMetH TP j88 w)/\sizedMet enc TP Tryz.f5 (OpenSpec.ofChange Rows.imageBackSpec) false w args)
   (Rows.imageBackSpec.post enc TP Tryz.f5 false true false false):=by
 refine q7m (C:=Tryz.checked) (X:=fun w _=>laidMetH TP j88 w) (fun _ _ _ hh h=>h.of_heap hh) Tryz.b8V started (by kernel_rfl) Tryz.func5
  (ChangeSpec.witness_shaped (enc:=enc) (C:=Tryz.checked) (os:=os) (X:=fun w _=>laidMetH TP j88 w) false (World.doorLaid TP 400 os) #[.slice none 0 0,.slice none 0 0] 8 rfl (World.shaped_of_RefB (by kernel_rfl) (by kernel_rfl)) (by kernel_rfl) (by kernel_rfl) (by kernel_rfl) (a15 os _)) ?_
 intro W base args ds gs before hval0 hW _ hwt hL hsh _;have hW':=hW;obtain⟨p,q,hA0,hV,rfl,hfz,hnd⟩:=hW;have hA:DataW.TrodAll enc TP W 0 (fun _=>true) true Tryz.f5.params.toList args.toList ds p:=hA0
 rw[Tryz.params5]at hA hwt;obtain⟨v1,vs1,d1,ds1,p1,q1,ha1,rfl,hr1,hA1⟩:=q8H hA;obtain⟨v2,vs2,d2,ds2,p2,q2,rfl,rfl,hr2,hA2⟩:=q8H hA1;obtain⟨rfl,rfl⟩:=j0E hA2;obtain⟨rfl,rfl⟩:=trodVars_none hV;have hargs:args=#[v1,v2]:=by rw[<-Array.toArray_toList (xs:=args),ha1]
 subst hargs;obtain⟨acts,hr,hN⟩:=a1v (hval0 0 22 v1 (by kernel_rfl) rfl) hr1;obtain⟨L,hs,ht,_,hl⟩:=a1x (B:=reachBytes) (hval0 1 23 v2 (by kernel_rfl) rfl) hr2 (fun k hk=>by
  have:=xBd.1 hwt k (by simp only[DataW.weightsEach,xAy,xAm,xma];exact .inr (.inl hk));simpa using this)
 obtain⟨m',hrun⟩:=a8l (z1e W) hr hN (a1R hL) hs ht (by unfold reachBytes at hl;omega);refine(j9a (E:=E50) b2E (f:=5) Tryz.func5 (by kernel_rfl) (by decide +kernel) (z7C hsh a8o) (args:=[v1,v2]) hrun).mono fun e W' ⟨he,hb⟩=>?_
 subst he;exact⟨_,rfl,a3x (P:=TP) (tb:=4) Tryz.a3w (by decide +kernel) (by kernel_rfl) (by kernel_rfl) rfl hW' rfl hb⟩
end
section
open Go
set_option maxRecDepth 20000
theorem b7B:laidOutB Tryz.pinned.checked.prog=true:=by kernel_rfl
theorem b7C:mapsRowed Tryz.pinned.checked.prog=true:=by kernel_rfl
theorem b4I:(Tryz.pinned.checked.prog.stops==[])=true:=by kernel_rfl
theorem b4G:(Tryz.pinned.checked.prog.stopKnobs==[])=true:=by kernel_rfl
end
end Go.Proofs.YtkbhcgifnnhbaaaGreatDoor
