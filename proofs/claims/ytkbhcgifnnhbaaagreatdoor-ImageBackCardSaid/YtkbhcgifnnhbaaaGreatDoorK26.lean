/- Texts of one claim, put together. -/
import Derived.Test.YtkbhcgifnnhbaaaGreatDoorK25
namespace Go.Proofs.YtkbhcgifnnhbaaaGreatDoor
open Go Go.Abs
set_option maxRecDepth 20000
set_option maxHeartbeats 400000
section
theorem z8N {d:Do} {m:Mem} (v:AV) (K:CM):q0a d (.chk (some v) v K) m=q0a d K m:=xAb rfl
abbrev q1k (x:q0L) (s:AV):List AV:=[.int .u64 x.id,.int .u64 x.seq,.int .u64 x.used,s]
section
variable {m m0 m':Mem} {a b p q rc:Nat} {e:Int} {B:List UInt8} {st:RS} {rb:Option Nat}
def KpI (m0:Mem) (a b p:Nat) (B:List UInt8) (rb:Option Nat) (i k u:AV) (M:Mem) (s:PS) (l:List q1d):Prop:=
 q6k M a b s.e/\q2s M b B s.rs rb/\Fr m0 M [a,b,p]/\∃sl r,M.get p=some (.cells [i,k,u,sl] false)/\q08 6 M sl (l.map q1d.cells) r/\∀c,r=some c->m0.next<=c
theorem a0m {i k u:AV} {M:Mem} {s:PS} {l:List q1d} (hc:m0.get rc=some (.cells [.ptr (some ⟨a,0⟩)] false)) (hrc:rc∉[a,b,p]) (hp:p∉[a,b]) (hpl:p<m0.next) (hal:a<m0.next) (hbl:b<m0.next) (hrl:∀c,rb=some c->c<m0.next/\c≠a/\c≠p) (hl:B.length<=32768)
  (h:KpI m0 a b p B rb i k u M s l) (he:s.e=0) (hN:l.length<64) :
  ∃v M',q1m (Da H50).call (.fn (.func 171) [] [.ptr (some ⟨p,0⟩),.ptr (some ⟨rc,0⟩)]) [] M=some (v,M')/\KpI m0 a b p B rb i k u M' (q4o B s.rs).2 (l++[(q4o B s.rs).1]):=by
 obtain⟨hi,hr,hf,sl,r,hq,ht,hg⟩:=h;rw[he]at hi;have hn:=hf.next
 obtain⟨M1,e1,i1,r1,f1⟩:=a3r hi hr (fun e=>(hrl a e).2.1 rfl) hl
 obtain⟨K,hK⟩:∃K,K=q4o B s.rs:=⟨_,rfl⟩;rw[<-hK]at e1 i1 r1⊢;have q1:=f1.get hq hp;have hrr:∀c,r=some c->c∉[a,b]:=fun c hc=>by have:=hg c hc;simp;omega
 have b1:(64:Nat)*48<=q0j:=by decide
 obtain⟨s',m2,m3,k1,k2,k3,k4,k5⟩:=q8p (cs:=K.1.cells) (n:=6) (w:=48) (j:=3) (by omega) q1 (by simp) (ht.frame f1 hrr) (fun e=>by have:=hg _ e;omega) rfl rfl (by simp;omega)
 have hp':p≠a/\p≠b:=by simpa using hp
 refine⟨.undef,m3,?_,⟨k5.get i1.1 ?_,i1.2⟩,r1.frame k5 ?_ ?_,(hf.step f1 (fun c hc=>.inl (by simp at hc;rcases hc with h|h<;>simp[h]))).step k5 ?_,s',_,by simpa using k3,by simpa using k4,fun c hc=>by cases hc;have:=f1.next;omega⟩
 ·rw[q6q];have c1:=hf.get hc hrc;have lp:ld1 M (.ptr (some ⟨p,3⟩))=some sl:=by rw[q0e hq];rfl
  have lp1:ld1 M1 (.ptr (some ⟨p,3⟩))=some sl:=by rw[q0e q1];rfl
  have ec:=q40 (n:=6) (zs:=[.int .u64 0,.int .i64 0,.int .u64 0,.int .i64 0,.int .u64 0,.int .i64 0]) (cs:=K.1.cells) rfl rfl rfl;simp only[xAm,a9t (H:=H50) rfl,b6v,p1,apE,q0f,lp,q0e c1,e1,lp1,xAd,ec,k1,k2]
 ·simp only[xmk0,xAw];rintro(h|h)
  ·exact hp'.1 h.symm
  ·have:=hg _ h;omega
 ·simp only[xmk0,xAw];rintro(h|h)
  ·exact hp'.2 h.symm
  ·have:=hg _ h;omega
 ·intro c hc;have hh:=hrl c hc;simp only[xmk0,xAw];rintro(h|h)
  ·exact hh.2.2 h
  ·have:=hg _ h;omega
 ·intro c hc;simp only[xmk0,xAw]at hc;rcases hc with h|h
  ·exact .inl (by simp[h])
  ·exact .inr (hg c h)
theorem a3u {i k u:AV} (hi:q6k m a b 0) (hr:q2s m b B st rb) (hc:m.get rc=some (.cells [.ptr (some ⟨a,0⟩)] false)) (hrc:rc∉[a,b,p]) (hp:p∉[a,b]) (hq:m.get p=some (.cells [i,k,u,.sl none 0 0 0 true] false)) (hrl:∀c,rb=some c->c<m.next/\c≠a/\c≠p) (hl:B.length<=32768) :
  ∃m',run E50 (.fn 162) [.ptr (some ⟨a,0⟩),.int .u64 4,.fn (.func 171) [] [.ptr (some ⟨p,0⟩),.ptr (some ⟨rc,0⟩)]] m=some (.undef,m')/\KpI m a b p B rb i k u m' (z5p 4 q4o B st).2 (z5p 4 q4o B st).1:=by
 have hpl:=Mem.q0u hq;have hp':p≠a/\p≠b:=by simpa using hp
 exact z6M (N:=64) (I:=KpI m a b p B rb i k u) (f:=q4o B) ⟨by omega,by omega⟩ (by omega) (fun M s l h=>h.1)
  (fun M s l h he hN=>a0m hc hrc hp hpl (Mem.q0u hi.1) hr.blt hrl hl h he hN)
  ⟨hi,hr,Fr.refl' m _,_,none,hq,q08.nil _ _ _ _,by simp⟩
  (by
   obtain⟨m1,e1,r1,f1⟩:=q2T (most:=4) hr;exact⟨m1,e1,hi.to f1,r1,f1.mono (by simp +contextual),_,none,f1.get hq (by simpa using hp'.2),q08.nil _ _ _ _,by simp⟩)
structure SsA (m:Mem) (ss:AV) (L:List (q0L×AV×Option Nat)) (r:Option Nat) (n0:Nat):Prop where
 t:q08 4 m ss (L.map fun x=>q1k x.1 x.2.1) r
 g:∀c,r=some c->n0<=c
 k:∀x∈L,q08 6 m x.2.1 (x.1.kept.map q1d.cells) x.2.2/\∀c,x.2.2=some c->n0<=c/\r≠some c
theorem SsA.frame {m m':Mem} {ss:AV} {L:List (q0L×AV×Option Nat)} {r:Option Nat} {n0:Nat} {S:List Nat} (h:SsA m ss L r n0) (hf:Fr m m' S) (hS:∀c∈S,c<n0):SsA m' ss L r n0:=
 ⟨h.t.frame hf fun c hc hm=>by have:=h.g c hc;have:=hS c hm;omega,h.g,fun x hx=>⟨(h.k x hx).1.frame hf fun c hc hm=>by have:=((h.k x hx).2 c hc).1;have:=hS c hm;omega,(h.k x hx).2⟩⟩
def SsI (m0:Mem) (a b q:Nat) (B:List UInt8) (rb:Option Nat) (M:Mem) (s:PS) (l:List q0L):Prop:=
 q6k M a b s.e/\q2s M b B s.rs rb/\Fr m0 M [a,b,q]/\∃ss r L,L.map Prod.fst=l/\M.get q=some (.cells [ss] false)/\SsA M ss L r m0.next
theorem a0l {M:Mem} {s:PS} {l:List q0L} (hc:m0.get rc=some (.cells [.ptr (some ⟨a,0⟩)] false)) (hrc:rc∉[a,b,q]) (hq:q∉[a,b]) (hql:q<m0.next) (hal:a<m0.next) (hbl:b<m0.next) (hrl:∀c,rb=some c->c<m0.next/\c≠a/\c≠q) (hl:B.length<=32768)
  (h:SsI m0 a b q B rb M s l) (he:s.e=0) (hN:l.length<64) :
  ∃v M',q1m (Da H50).call (.fn (.func 170) [] [.ptr (some ⟨rc,0⟩),.ptr (some ⟨q,0⟩)]) [] M=some (v,M')/\SsI m0 a b q B rb M' (q7z B s.rs).2 (l++[(q7z B s.rs).1]):=by
 obtain⟨hi,hr,hf,ss,r,L,hL,gq,hS⟩:=h;rw[he]at hi;have hn:=hf.next
 have hrc':rc≠a/\rc≠b/\rc≠q:=by simpa using hrc
 have hq':q≠a/\q≠b:=by simpa using hq
 have hrcl:=Mem.q0u hc;have cM:=hf.get hc hrc;obtain⟨M1,e1,r1,f1⟩:=q2T (most:=q0M) hr;obtain⟨i,hii⟩:∃i,i=q1a B q0M s.rs:=⟨_,rfl⟩;rw[<-hii]at e1 r1;have b1:=Bx.new (e:=0) r1 (hi.to f1) (f1.get cM (by simpa using hrc'.2.1)) f1 hr.blt (Mem.q0u cM) hr.rlt (Mem.q0u hi.1) hrc'.2.1 [.int .u64 i.1,.int .u64 0,.int .u64 0,.sl none 0 0 0 true];obtain⟨M2,e2,b2⟩:=b1.num q0M;obtain⟨k,hk⟩:∃k,k=q1a B q0M i.2:=⟨_,rfl⟩
 rw[<-hk]at e2 b2;obtain⟨M3,e3,b3⟩:=b2.put (v:=.int .u64 k.1) (o:=1) (n:=1) rfl rfl (by simp) rfl;obtain⟨M4,e4,b4⟩:=b3.num q0M;obtain⟨u,hu⟩:∃u,u=q1a B q0M k.2:=⟨_,rfl⟩;rw[<-hu]at e4 b4;obtain⟨M5,e5,b5⟩:=b4.put (v:=.int .u64 u.1) (o:=2) (n:=1) (ds:=[.int .u64 i.1,.int .u64 k.1,.int .u64 u.1,.sl none 0 0 0 true]) rfl rfl (by simp) rfl;obtain⟨p,hp⟩:∃p,p=M1.next:=⟨_,rfl⟩
 rw[<-hp]at b1 b2 b3 b4 b5 e3 e5;have n1:=f1.next
 have n5:=b5.fr.next
 have p5:p<M5.next:=Mem.q0u b5.bx
 obtain⟨M6,e6,i6,r6,f6,sl,rk,g6,t6,o6⟩:=a3u (p:=p) b5.ir b5.rd b5.c (by simp;omega) (by simp;omega) b5.bx (fun c hc=>by have:=hrl c hc;omega) hl
 obtain⟨K,hK⟩:∃K,K=z5p 4 q4o B u.2:=⟨_,rfl⟩;rw[<-hK]at i6 r6 t6;have hx:q7z B s.rs=(⟨i.1,k.1,u.1,K.1⟩,K.2):=by subst hK;subst hu;subst hk;subst hii;rfl
 rw[hx];have f56:Fr M M6 [a,b]:=(b5.fr.mono (by simp +contextual)).step f6 (fun c hc=>by
  simp only[xmk0,xFq,or_false]at hc;rcases hc with h|h|h
  ·exact .inl (by simp[h])
  ·exact .inl (by simp[h])
  ·exact .inr (by omega))
 have S6:=hS.frame f56 (by simp;omega);have g6q:=f56.get gq hq;have hb64:(65:Nat)*48<=q0j:=by decide
 obtain⟨x,hxx⟩:∃x:q0L,x=⟨i.1,k.1,u.1,K.1⟩:=⟨_,rfl⟩;have hlen:L.length<64:=by have:=xFa List.length hL;simp at this;omega
 have hsl:(q1k x sl).all AV.one=true:=by
  simp only[q1k,xBq,t6.one,xCw];rfl
 obtain⟨s',m7,m8,k1,k2,k3,k4,k5⟩:=q8p (cs:=q1k x sl) (n:=4) (w:=48) (j:=0) (by omega) g6q (by simp) S6.t (fun e=>by have:=hS.g _ e;omega) rfl hsl (by simp;omega)
 have n6:=f56.next
 have far:∀c,c∈q::r.toList->c=q\/m0.next<=c:=fun c hc=>by
  simp only[xmk0,xAw]at hc;exact hc.imp_right (hS.g c)
 refine⟨.undef,m8,?_,⟨k5.get i6.1 (fun h=>?_),i6.2⟩,r6.frame k5 (fun h=>?_) (fun c hc h=>?_),(hf.step f56 (fun c hc=>.inl (by simp at hc;rcases hc with h|h<;>simp[h]))).step k5 (fun c hc=>(far c hc).imp_left (fun h=>by simp[h])),s',_,L++[(x,sl,rk)],by rw[xCx,hL];simp[hxx],by simpa using k3,by simpa using k4,fun c hc=>by cases hc;omega,?_⟩
 ·rw[q6q];have lp:ldN M6 (.ptr (some ⟨p,0⟩)) 4=some (.agg (q1k x sl)):=by rw[hxx];exact q0X g6 rfl
  have lq:ld1 M6 (.ptr (some ⟨q,0⟩))=some ss:=by rw[q0e g6q];rfl
  have eb:=(q1T (m:=M1) (zs:=[.int .u64 0,.int .u64 0,.int .u64 0,.sl none 0 0 0 true]) (cs:=[.int .u64 i.1,.int .u64 0,.int .u64 0,.sl none 0 0 0 true]) (n:=4) rfl rfl rfl).1;have ec:=q40 (n:=4) (zs:=[.int .u64 0,.int .u64 0,.int .u64 0,.sl none 0 0 0 true]) hsl rfl rfl;rw[<-hp]at eb;simp only[xAm,a9s (H:=H50) rfl,b6u,q1,p1,pB,apE,q0p,AV.cells,Nat.reduceAdd,Nat.reduceLeDiff,nnA,q1M,q0e cM,q0e hi.1,e1,eb,<-hp,q0e b1.c,q0e b1.ir.1,e2,e3,q0e b3.c,q0e b3.ir.1,e4,e5,q0e b5.c,e6,lp,lq,ec,k1,k2]
 ·rcases far _ h with h|h
  ·exact hq'.1 h.symm
  ·omega
 ·rcases far _ h with h|h
  ·exact hq'.2 h.symm
  ·omega
 ·have:=hrl c hc;rcases far _ h with h|h
  ·exact this.2.2 h
  ·omega
 ·intro y hy;rcases xma.1 hy with hy|hy
  ·obtain⟨y1,y2⟩:=S6.k y hy;refine⟨y1.frame k5 (fun c hc h=>?_),fun c hc=>⟨(y2 c hc).1,fun h=>?_⟩⟩
   ·have:=y2 c hc;simp only[xmk0,xAw]at h;rcases h with h|h
    ·omega
    ·exact this.2 h
   ·cases h;have h2:=y2 _ hc;have h3:=y1;rw[hc]at h3;have:=h3.lt;omega
  ·obtain rfl:=xms.1 hy;have t6':q08 6 M6 sl (x.kept.map q1d.cells) rk:=by rw[hxx];exact t6
   refine⟨t6'.frame k5 (fun c hc h=>?_),fun c hc=>⟨by have:=o6 c hc;omega,fun h=>?_⟩⟩
   ·have h1:=o6 c hc;simp only[xmk0,xAw]at h;rcases h with h|h
    ·omega
    ·have h3:=hS.t;rw[h]at h3;have:=h3.lt;omega
   ·cases h;have hc':rk=some (M6.next+1):=hc
    rw[hc']at t6;have:=t6.lt;omega
theorem a3t (hi:q6k m a b 0) (hr:q2s m b B st rb) (ra:rb≠some a) (hl:B.length<=32768) :
  ∃ss L r m',run E50 (.fn 103) [.ptr (some ⟨a,0⟩)] m=some (ss,m')/\q6k m' a b (q3N B st).2.e/\q2s m' b B (q3N B st).2.rs rb/\Fr m m' [a,b]/\L.map Prod.fst=(q3N B st).1/\SsA m' ss L r m.next:=by
 have hb:=hr.blt;have ha:=Mem.q0u hi.1;have hrl:=hr.rlt;obtain⟨m1,hm1⟩:∃m1,m1=m.lay (.cells [.ptr (some ⟨a,0⟩)] false):=⟨_,rfl⟩;obtain⟨m2,hm2⟩:∃m2,m2=m1.lay (.cells [.sl none 0 0 0 true] false):=⟨_,rfl⟩;have f1:Fr m m1 []:=hm1▸(Fr.refl m).lay _;have f2:Fr m1 m2 []:=hm2▸(Fr.refl m1).lay _;have n1:m1.next=m.next+1:=by rw[hm1];simp
 have n2:m2.next=m.next+2:=by rw[hm2];simp[n1]
 have c2:m2.get m.next=some (.cells [.ptr (some ⟨a,0⟩)] false):=f2.get (by rw[hm1];exact q0k _ _) (by simp)
 have q2:m2.get m1.next=some (.cells [.sl none 0 0 0 true] false):=by rw[hm2];exact q0k _ _
 have f02:=f1.step0 f2;have i2:q6k m2 a b 0:=⟨f02.get hi.1 (by simp),hi.2⟩;have r2:=hr.q0m f02;have hrl2:∀c,rb=some c->c<m2.next/\c≠a/\c≠m1.next:=fun c hc=>by
  have:=hrl c hc;exact⟨by omega,fun e=>ra (by rw[hc,e]),by omega⟩
 obtain⟨m3,e3,i3,r3,f3,ss,r,L,hL,g3,S3⟩:=z6M (N:=64) (m:=m2) (st:=st) (most:=16) (fv:=.fn (.func 170) [] [.ptr (some ⟨m.next,0⟩),.ptr (some ⟨m1.next,0⟩)]) (I:=SsI m2 a b m1.next B rb) (f:=q7z B) ⟨by omega,by omega⟩ (by omega) (fun M s l h=>h.1)
  (fun M s l h he hN=>a0l c2 (by simp;omega) (by simp;omega) (Mem.q0u q2) (Mem.q0u i2.1) r2.blt hrl2 hl h he hN)
  ⟨i2,r2,Fr.refl' m2 _,_,none,[],rfl,q2,q08.nil _ _ _ _,by simp,by simp⟩
  (by
   obtain⟨m',e1,r1,f1⟩:=q2T (most:=16) r2;exact⟨m',e1,i2.to f1,r1,f1.mono (by simp +contextual),_,none,[],rfl,f1.get q2 (by simp;omega),q08.nil _ _ _ _,by simp,by simp⟩)
 refine⟨ss,L,r,m3,?_,i3,r3,?_,hL,S3.t,fun c hc=>by have:=S3.g c hc;omega,fun x hx=>⟨(S3.k x hx).1,fun c hc=>⟨by have:=((S3.k x hx).2 c hc).1;omega,((S3.k x hx).2 c hc).2⟩⟩⟩
 ·have eb:q00 (.ptr (some ⟨a,0⟩))=some (.cells [.ptr (some ⟨a,0⟩)] false,fun b=>.ptr (some ⟨b,0⟩)):=by rfl
  simp only[ge,a81 (H:=H50) rfl,b6a,pB,q1,q0y,eb,<-hm1,<-hm2,q0e c2,e3,q0e g3]
 ·exact(f02.any _).step f3 (fun c hc=>by
   simp only[xmk0,xFq,or_false]at hc;rcases hc with h|h|h
   ·exact .inl (by simp[h])
   ·exact .inl (by simp[h])
   ·exact .inr (by omega))
end
end
section
open Go Go.Abs
set_option maxRecDepth 20000
set_option maxHeartbeats 800000
section
variable {m:Mem} {x:q0L} {sl ss:AV}
theorem j9B {i:Nat} (hi:i<x.kept.length):z0V x i=j6Q x i x.kept[i]:=by unfold z0V;rw[xgq hi]
theorem z02 {p:Nat} (ht:x.ty) (hn:(x.kept.length:Int)=if x.seq<=4 then x.seq else 4) (h1:m.get p=some (.cells (q1k x sl) false)) (hk:q2H 6 m sl (x.kept.map q1d.cells)):∀(d i:Nat) (M:Mem),i+d=x.kept.length->Fr m M []->
  Res M (D50.gor 638977 [.ptr (some ⟨p,0⟩),.int .u64 (x.kept.length:Int),sl,.int .i64 (x.kept.length:Int),.int .i64 (i:Int)] M) (.bool (q3S (z0V x) d i))
 | 0,i,M,hi,hM=>by
  refine Res.eq (Fr.refl M) ?_|>fun h=>(by
   have e:D50.gor 638977 [.ptr (some ⟨p,0⟩),.int .u64 (x.kept.length:Int),sl,.int .i64 (x.kept.length:Int),.int .i64 (i:Int)] M=some (.bool true,M):=by
    rw[z4i];simp only[q6j,p2,q0b,q0f,df (show ¬(i:Int)<(x.kept.length:Int) by omega),j5p (H:=H50),j2s,q0f]
   rw[e];exact h)
  rfl
 |d+1,i,M,hi,hM=>by
  have hl4:x.kept.length<=4:=by split at hn<;>omega
  have hil:i<x.kept.length:=by omega
  obtain⟨bb,o,_,e2,_,_,e5⟩:=(hk.q0m hM).ixT q4c z1Y (i:=i) (by simpa using hil);rw[xgm]at e5;obtain⟨k,hkk⟩:∃k,k=x.kept[i]:=⟨_,rfl⟩;rw[<-hkk]at e5;have tk:k.ty:=ht.k k (hkk▸xAf hil);obtain⟨M1,hM1⟩:∃M1,M1=M.lay (.cells k.cells false):=⟨_,rfl⟩;have f1:Fr M M1 []:=hM1▸(Fr.refl M).lay _;have eb:=(q1T (m:=M) (zs:=[.int .u64 0,.int .i64 0,.int .u64 0,.int .i64 0,.int .u64 0,.int .i64 0]) (cs:=k.cells) (n:=6) rfl rfl rfl).1
  rw[<-hM1]at eb;have g1:M1.get M.next=some (.cells k.cells false):=by rw[hM1];exact q0k _ _
  have gp:=f1.get (hM.get h1 (by simp)) (by simp);have k0:k.cells[0]? = some (.int .u64 k.seq):=rfl;have k1:k.cells[1]? = some (.int .i64 k.rep.code):=rfl;have k5:k.cells[5]? = some (.int .i64 k.rep.scale):=rfl;have q1:(q1k x sl)[1]? = some (.int .u64 x.seq):=rfl;have w1:IntKind.wrap .u64 (x.seq-(x.kept.length:Int))=x.seq-x.kept.length:=by rw[q0i];have:=ht.q;split at hn<;>omega
  have w2:IntKind.wrap .u64 (i:Int)=(i:Int):=by rw[q0i];omega
  have w3:IntKind.wrap .u64 (x.seq-(x.kept.length:Int)+(i:Int))=x.seq-x.kept.length+i:=by rw[q0i];have:=ht.q;split at hn<;>omega
  have w4:IntKind.wrap .u64 (x.seq-(x.kept.length:Int)+(i:Int)+1)=x.seq-x.kept.length+i+1:=by rw[q0i];have:=ht.q;split at hn<;>omega
  have w5:IntKind.wrap .i64 ((i:Int)+1)=((i+1:Nat):Int):=by rw[wrap_i64 (by omega) (by omega)];omega
  have dl:decide ((i:Int)<(x.kept.length:Int))=true:=dt (by omega);unfold q3S;rw[j9B hil,<-hkk];unfold j6Q;rw[z4i];by_cases c1:k.seq=x.seq-x.kept.length+i+1
  ·by_cases c2:0<=k.rep.code
   ·by_cases c3:k.rep.code<=99
    ·by_cases c4:0<=k.rep.scale
     ·by_cases c5:k.rep.scale<=18
      ·simp only[q6j,p2,q0b,q0f,dl,q4i (H:=H50),q7H,q1,pB,p1,ifV,Nat.reduceAdd,q0f,e2,e5,eb,q0e g1,q0e gp,k0,k1,k5,w1,w2,w3,w4,dt c1,xbt,df (show ¬k.rep.code<0 by omega),df (show ¬99<k.rep.code by omega),df (show ¬k.rep.scale<0 by omega),df (show ¬18<k.rep.scale by omega),j5o (H:=H50),j2r,q0f,w5];obtain⟨M2,r,f2⟩:=z02 ht hn h1 hk d (i+1) M1 (by omega) (hM.step0 f1)
       refine⟨M2,?_,f1.step0 f2⟩;rw[r,dt c2,dt c3,dt c4,dt c5];rfl
      ·simp only[q6j,p2,q0b,q0f,dl,q4i (H:=H50),q7H,q1,pB,p1,ifV,Nat.reduceAdd,q0f,e2,e5,eb,q0e g1,q0e gp,k0,k1,k5,w1,w2,w3,w4,dt c1,xbt,df (show ¬k.rep.code<0 by omega),df (show ¬99<k.rep.code by omega),df (show ¬k.rep.scale<0 by omega),dt (show 18<k.rep.scale by omega)];exact Res.eq f1 (by rw[df c5];simp)
     ·simp only[q6j,p2,q0b,q0f,dl,q4i (H:=H50),q7H,q1,pB,p1,ifV,Nat.reduceAdd,q0f,e2,e5,eb,q0e g1,q0e gp,k0,k1,k5,w1,w2,w3,w4,dt c1,xbt,df (show ¬k.rep.code<0 by omega),df (show ¬99<k.rep.code by omega),dt (show k.rep.scale<0 by omega)];exact Res.eq f1 (by rw[df c4];simp)
    ·simp only[q6j,p2,q0b,q0f,dl,q4i (H:=H50),q7H,q1,pB,p1,ifV,Nat.reduceAdd,q0f,e2,e5,eb,q0e g1,q0e gp,k0,k1,k5,w1,w2,w3,w4,dt c1,xbt,df (show ¬k.rep.code<0 by omega),dt (show 99<k.rep.code by omega)];exact Res.eq f1 (by rw[df c3];simp)
   ·simp only[q6j,p2,q0b,q0f,dl,q4i (H:=H50),q7H,q1,pB,p1,ifV,Nat.reduceAdd,q0f,e2,e5,eb,q0e g1,q0e gp,k0,k1,k5,w1,w2,w3,w4,dt c1,xbt,dt (show k.rep.code<0 by omega)];exact Res.eq f1 (by rw[df c2];simp)
  ·simp only[q6j,p2,q0b,q0f,dl,q4i (H:=H50),q7H,q1,pB,p1,ifV,Nat.reduceAdd,q0f,e2,e5,eb,q0e g1,q0e gp,k0,k1,k5,w1,w2,w3,w4,df c1,xbf];exact Res.eq f1 (by simp)
theorem a4p (ht:x.ty) (hk:q2H 6 m sl (x.kept.map q1d.cells)) (hl:x.kept.length<4611686018427387904):Res m (run E50 (.fn 156) [.agg (q1k x sl)] m) (.bool (q65 x)):=by
 obtain⟨M,hM⟩:∃M,M=m.lay (.cells (q1k x sl) false):=⟨_,rfl⟩;have f1:Fr m M []:=hM▸(Fr.refl m).lay _;have g1:M.get m.next=some (.cells (q1k x sl) false):=by rw[hM];exact q0k _ _
 have eb:q00 (.agg (q1k x sl))=some (.cells (q1k x sl) false,fun b=>.ptr (some ⟨b,0⟩)):=j3Q (by simp only[q1k,xBq,hk.one,xCw];rfl)
 have q1:(q1k x sl)[1]? = some (.int .u64 x.seq):=rfl;have q3:(q1k x sl)[3]? = some sl:=rfl;have hlen:=hk.q2e q4c;rw[xlm]at hlen;have wl:IntKind.wrap .u64 (x.kept.length:Int)=(x.kept.length:Int):=by rw[q0i];omega
 have hmin:a6E (.int .u64 x.seq) (.int .u64 4)=some (.int .u64 (if x.seq<=4 then x.seq else 4)):=by
  simp only[a6E];split<;>split<;>first|rfl|(congr 2;omega)
 unfold q65;by_cases hn:(x.kept.length:Int)=if x.seq<=4 then x.seq else 4
 ·rw[dt hn,xAs];obtain⟨M2,r,f2⟩:=z02 ht hn g1 (hk.q0m f1) x.kept.length 0 M (by omega) (Fr.refl M);refine⟨M2,?_,f1.step0 f2⟩;simp only[xAz]at r;simp only[j4A (H:=H50) rfl,b5j,p1,q1,p2,q0b,q0f,eb,<-hM,q0e g1,hmin,q3,hlen,wl,xbt,<-hn,xAn,j5n (H:=H50),j2q,q0f,r]
 ·rw[df hn,xAt];simp only[j4A (H:=H50) rfl,b5j,p1,q1,p2,q0b,q0f,eb,<-hM,q0e g1,hmin,q3,hlen,wl,df hn,xbf];exact Res.eq f1 rfl
structure SsV (m:Mem) (ss:AV) (L:List (q0L×AV)):Prop where
 t:q2H 4 m ss (L.map fun x=>q1k x.1 x.2)
 k:∀x∈L,q2H 6 m x.2 (x.1.kept.map q1d.cells)
theorem SsV.q0m {m m':Mem} {L:List (q0L×AV)} (h:SsV m ss L) (hf:Fr m m' []):SsV m' ss L:=⟨h.t.q0m hf,fun x hx=>(h.k x hx).q0m hf⟩
theorem SsV.q3G {m m':Mem} {L:List (q0L×AV)} {S:List Nat} (h:SsV m ss L) (hf:Fr m m' S) (hS:∀c,c∈S->m.next<=c):SsV m' ss L:=⟨h.t.q3G hf hS,fun x hx=>(h.k x hx).q3G hf hS⟩
theorem SsA.v {m:Mem} {L:List (q0L×AV×Option Nat)} {r:Option Nat} {n:Nat} (h:SsA m ss L r n):SsV m ss (L.map fun x=>(x.1,x.2.1)):=
 ⟨by rw[List.map_map];exact h.t.v,fun x hx=>by
  obtain⟨y,hy,rfl⟩:=xBr.1 hx;exact(h.k y hy).1.v⟩
abbrev sOf (L:List (q0L×AV)):List q0L:=L.map Prod.fst
theorem j9C {l:List q0L} {i:Nat} (hi:i<l.length):q5d l i=j0S l i l[i]:=by unfold q5d;rw[xgq hi]
theorem q9P {L:List (q0L×AV)} (h:SsV m ss L) (ht:∀x∈L,x.1.ty) (hk:∀x∈L,x.1.kept.length<4611686018427387904) (hL:L.length<=16):∀(d i:Nat) (M:Mem),i+d=L.length->Fr m M []->
  Res M (D50.gor 307201 [.int .u64 (q3A (sOf L) i),ss,.int .i64 (L.length:Int),.int .i64 (i:Int)] M) (.bool (q3S (q5d (sOf L)) d i))
 | 0,i,M,hi,hM=>by
  have e:D50.gor 307201 [.int .u64 (q3A (sOf L) i),ss,.int .i64 (L.length:Int),.int .i64 (i:Int)] M=some (.bool true,M):=by
   rw[z9x];simp only[z1d,p2,q0b,q0f,df (show ¬(i:Int)<(L.length:Int) by omega),a2W (H:=H50),a7Q,q0f]
  rw[e];exact Res.of (Fr.refl M)
 |d+1,i,M,hi,hM=>by
  have hil:i<L.length:=by omega
  obtain⟨bb,o,_,e2,_,_,e5⟩:=(h.q0m hM).t.ixT q2b q7t (i:=i) (by simpa using hil);rw[xgm]at e5;obtain⟨y,hy⟩:∃y,y=L[i]:=⟨_,rfl⟩;rw[<-hy]at e5;have hyL:y∈L:=hy▸xAf hil;obtain⟨x,sl⟩:=y;have ty:=ht _ hyL;have kv:=(h.q0m hM).k _ hyL;have kl:=hk _ hyL;simp only at e5 ty kv kl;have hone:(q1k x sl).all AV.one=true:=by simp only[q1k,xBq,kv.one,xCw];rfl
  obtain⟨M1,hM1⟩:∃M1,M1=M.lay (.cells (q1k x sl) false):=⟨_,rfl⟩;have f1:Fr M M1 []:=hM1▸(Fr.refl M).lay _;have eb:=(q1T (m:=M) (zs:=[.int .u64 0,.int .u64 0,.int .u64 0,.sl none 0 0 0 true]) (cs:=q1k x sl) (n:=4) rfl rfl hone).1;rw[<-hM1]at eb;have g1:M1.get M.next=some (.cells (q1k x sl) false):=by rw[hM1];exact q0k _ _
  have l1:ldN M1 (.ptr (some ⟨M.next,0⟩)) 4=some (.agg (q1k x sl)):=q0X g1 rfl
  have q0:(q1k x sl)[0]? = some (.int .u64 x.id):=rfl;have q1:(q1k x sl)[1]? = some (.int .u64 x.seq):=rfl;have q2:(q1k x sl)[2]? = some (.int .u64 x.used):=rfl;have w5:IntKind.wrap .i64 ((i:Int)+1)=((i+1:Nat):Int):=by rw[wrap_i64 (by omega) (by omega)];omega
  have dl:decide ((i:Int)<(L.length:Int))=true:=dt (by omega);obtain⟨M2,k2,f2⟩:=a4p ty (kv.q0m f1) kl;have g2:=f2.get g1 (by simp);have hsi:(sOf L)[i]'(by simpa using hil)=x:=by simp[sOf,<-hy]
  unfold q3S;rw[j9C (by simpa using hil),hsi];unfold j0S;rw[z9x];by_cases c1:q3A (sOf L) i<x.id
  ·by_cases c2:x.id<=72057594037927935
   ·by_cases c3:x.seq<=72057594037927935
    ·by_cases c4:x.used<=72057594037927935
     ·by_cases c5:q65 x=true
      ·rw[c5]at k2;have ha:q3A (sOf L) (i+1)=x.id:=by
        show (match (sOf L)[i]? with|some x=>x.id|none=>0)=x.id
        rw[xgq (by simpa using hil),hsi]
       obtain⟨M3,r,f3⟩:=q9P h ht hk hL d (i+1) M2 (by omega) ((hM.step0 f1).step0 f2);rw[ha]at r;simp only[z1d,p2,q0b,q0f,dl,q5G (H:=H50),z3c,q1,pB,p1,ifV,unA,q0f,e2,e5,eb,q0e g1,q0,q2,df (show ¬x.id<=q3A (sOf L) i by omega),df (show ¬72057594037927935<x.id by omega),df (show ¬72057594037927935<x.seq by omega),df (show ¬72057594037927935<x.used by omega),l1,k2,xbt,a2U (H:=H50),a7O,q0f,q0e g2,a2V (H:=H50),a7P,q0f,w5]
       refine⟨M3,?_,(f1.step0 f2).step0 f3⟩;rw[r,dt c1,dt c2,dt c3,dt c4,c5];rfl
      ·rw[Bool.not_eq_true]at c5;rw[c5]at k2;simp only[z1d,p2,q0b,q0f,dl,q5G (H:=H50),z3c,q1,pB,p1,ifV,unA,q0f,e2,e5,eb,q0e g1,q0,q2,df (show ¬x.id<=q3A (sOf L) i by omega),df (show ¬72057594037927935<x.id by omega),df (show ¬72057594037927935<x.seq by omega),df (show ¬72057594037927935<x.used by omega),l1,k2,xbf];exact Res.eq (f1.step0 f2) (by rw[c5];simp)
     ·simp only[z1d,p2,q0b,q0f,dl,q5G (H:=H50),z3c,q1,pB,p1,ifV,unA,q0f,e2,e5,eb,q0e g1,q0,q2,df (show ¬x.id<=q3A (sOf L) i by omega),df (show ¬72057594037927935<x.id by omega),df (show ¬72057594037927935<x.seq by omega),dt (show 72057594037927935<x.used by omega)];exact Res.eq f1 (by rw[df c4];simp)
    ·simp only[z1d,p2,q0b,q0f,dl,q5G (H:=H50),z3c,q1,pB,p1,ifV,unA,q0f,e2,e5,eb,q0e g1,q0,q2,df (show ¬x.id<=q3A (sOf L) i by omega),df (show ¬72057594037927935<x.id by omega),dt (show 72057594037927935<x.seq by omega)];exact Res.eq f1 (by rw[df c3];simp)
   ·simp only[z1d,p2,q0b,q0f,dl,q5G (H:=H50),z3c,q1,pB,p1,ifV,unA,q0f,e2,e5,eb,q0e g1,q0,q2,df (show ¬x.id<=q3A (sOf L) i by omega),dt (show 72057594037927935<x.id by omega)];exact Res.eq f1 (by rw[df c2];simp)
  ·simp only[z1d,p2,q0b,q0f,dl,q5G (H:=H50),z3c,q1,pB,p1,ifV,unA,q0f,e2,e5,eb,q0e g1,q0,q2,dt (show x.id<=q3A (sOf L) i by omega)];exact Res.eq f1 (by rw[df c1];simp)
theorem z5V {L:List (q0L×AV)} (h:SsV m ss L) (ht:∀x∈L,x.1.ty) (hk:∀x∈L,x.1.kept.length<4611686018427387904) (most:Int):Res m (run E50 (.fn 75) [ss,.int .i64 most] m) (.bool (q66 most (sOf L))):=by
 have hlen:=h.t.q2e q2b;rw[xlm]at hlen;have hl2:(sOf L).length=L.length:=by simp
 unfold q66;rw[hl2];by_cases c1:1<=most
 ·by_cases c2:most<=16
  ·by_cases c3:(L.length:Int)<=most
   ·obtain⟨M,r,f⟩:=q9P h ht hk (by omega) L.length 0 m (by omega) (Fr.refl m);simp only[xAz,q3A]at r;simp only[z9c (H:=H50) rfl,F75,p2,p1,q0b,ifV,q0f,df (show ¬most<1 by omega),df (show ¬16<most by omega),hlen,df (show ¬most<(L.length:Int) by omega),a2T (H:=H50),a7N,q0f,r];exact⟨M,by rw[dt c1,dt c2,dt c3];rfl,f⟩
   ·simp only[z9c (H:=H50) rfl,F75,p2,p1,q0b,ifV,q0f,df (show ¬most<1 by omega),df (show ¬16<most by omega),hlen,dt (show most<(L.length:Int) by omega)];exact Res.eq (Fr.refl m) (by rw[df c3];simp)
  ·simp only[z9c (H:=H50) rfl,F75,p2,p1,q0b,ifV,q0f,df (show ¬most<1 by omega),dt (show 16<most by omega)];exact Res.eq (Fr.refl m) (by rw[df c2];simp)
 ·simp only[z9c (H:=H50) rfl,F75,p2,p1,q0b,ifV,q0f,dt (show most<1 by omega)];exact Res.eq (Fr.refl m) (by rw[df c1];simp)
end
end
section
section
variable {m0 m m' m1 m2:Mem} {b c d q:Nat} {bs bs2:List UInt8} {F F' S:List Nat}
theorem j0f (h:q1I m0 m b bs F) (hl:bs.length<=q0j) :
  ∃s m' rb,run E50 (.fn 93) [.ptr (some ⟨b,0⟩)] m=some (s,m')/\Row m' s (u8 bs) rb/\Fr m m' []/\∀c,rb=some c->m.next<=c:=by
 obtain⟨F',g1,g2,g3⟩:=h;exact a0H g1 hl
theorem z7c {r:q5W} (hr:r.ok) (m:Mem) :
  ∃s m' rb,run E50 (.fn 92) [.agg r.cells] m=some (.tup [s,.int .i64 0],m')/\Row m' s (u8 (z6f r)) rb/\Fr m m' []/\∀c,rb=some c->m.next<=c:=by
 obtain⟨⟨c0,c1⟩,⟨v0,v1⟩,⟨s0,s1⟩,hw⟩:=hr;have v1':r.value<18446744073709551616:=by have:r.value<=18446744073709551615:=v1;omega
 have hmax:(100:Nat)<=q0j:=by decide
 have f0:Fr m (m.lay (.cells r.cells false)) []:=(Fr.refl m).lay _;have q1:=q0k m (.cells r.cells false);have dr:=q6w (H:=H50) rfl r.am r.scale (m.lay (.cells r.cells false));simp only[q0O]at dr;obtain⟨m2,e2,h2,f2⟩:=a0J (m.lay (.cells r.cells false));have q2:=f2.get q1 (by simp);have hqF:m.next∉[(m.lay (.cells r.cells false)).next]:=by simp
 obtain⟨m3,e3,w3⟩:=z7D c0 (by omega) h2.self (by simp;omega);obtain⟨m4,e4,w4⟩:=q4P v0 v1' w3 (by simp[q2J];omega);have hv:=(q0N r.value).2;obtain⟨m5,e5,w5⟩:=b5a hw s0 (show r.scale<256 by omega) w4 (by simp only[xla0,q2J,xAi,xAv];omega);have hv2:=q3Q r.am;obtain⟨s,m6,rb,e6,r6,f6,l6⟩:=j0f w5 (by simp only[xla0,q2J,xAi,xAv];omega);have f5:Fr m m5 []:=by
  obtain⟨_,_,g,_⟩:=w5;exact(f0.step f2 (by simp)).step g (fun c hc=>by simp at hc;exact .inr (by rw[hc];omega))
 refine⟨s,m6,rb,?_,?_,f5.step f6 (by simp),fun c hc=>xnt0 f5.next (l6 c hc)⟩
 ·have e0:q00 (.agg r.cells)=some (.cells r.cells false,fun b=>.ptr (some ⟨b,0⟩)):=by rfl
  have k0:r.cells[0]? = some (.int .i64 r.code):=by rfl
  have k1:r.cells[1]? = some (.int .u64 r.value):=by rfl
  have ew:IntKind.wrap .u8 r.code=r.code:=by rw[q2X];omega
  have k2:ldN (m.lay (.cells r.cells false)) (.ptr (some ⟨m.next,2⟩)) 3=some (.agg [.int .i64 r.am.hi,.int .u64 r.am.lo,.int .i64 r.scale]):=(q1b (q0k m _) (by simp[q5W.cells])).trans rfl
  have k3:ldN m4 (.ptr (some ⟨m.next,2⟩)) 3=some (.agg [.int .i64 r.am.hi,.int .u64 r.am.lo,.int .i64 r.scale]):=(q1b (w4.get q2 hqF) (by simp[q5W.cells])).trans rfl
  simp only[b4a (H:=H50) rfl,F92,p1,p2,q0b,ifV,unA,q0f,e0,q0e (q0k _ _),k0,df (show ¬r.code<0 by omega),df (show ¬(99:Int)<r.code by omega),k2,dr,dt (show 0<=r.scale/\r.scale<=18 from ⟨s0,s1⟩),xbt,a3j (H:=H50),a8d,q0f,e2,q0e q2,q0e (w3.get q2 hqF),k1,k3,ew,e3,e4,e5,e6]
 ·rw[show z6f r=[]++q2J r.code++q5R r.value++(q2J r.scale++q3g r.am) by simp only[z6f,xAg,xAm]];exact r6
theorem a8R {k:q1d} (hk:k.ok) (h:q5v m b bs F) (hc:Wc m c b F) (hl:bs.length+(q9T k).length+100<=q0j) :
  ∃m',run E50 (.fn 91) [.agg k.cells,.ptr (some ⟨c,0⟩)] m=some (.undef,m')/\q1I m m' b (bs++q9T k) F:=by
 have hl':=hl;have hv:=q0N ((z6f k.rep).length:Int);simp only[q9T,xla0,q1Z]at hl';have s1:k.seq<18446744073709551616:=by have:k.seq<=18446744073709551615:=hk.1.2;omega
 have f0:Fr m (m.lay (.cells k.cells false)) []:=(Fr.refl m).lay _;have hq:m.next∉F:=fun hc=>xDp _ (h.lt _ hc)
 have hq0:=q0k m (.cells k.cells false);have c0:Wc _ c b F:=⟨f0.get hc.1 (by simp),hc.2⟩;have w0:=(h.q0m f0).self;obtain⟨m1,e1,w1⟩:=q4P hk.1.1 s1 w0 (by omega);obtain⟨s,m2,rb,e2,r2,f2,l2⟩:=z7c hk.2 m1;have w2:=w1.q0m f2;obtain⟨m3,e3,w3⟩:∃m3,run E50 (.fn 82) [.ptr (some ⟨b,0⟩),s] m2=some (.undef,m3)/\q1I (m.lay (.cells k.cells false)) m3 b (bs++q5R k.seq++q1Z (z6f k.rep)) F:=by
  obtain⟨F1,h1,t1,u1⟩:=w1;obtain⟨m3,e3,w3⟩:=j0p (l:=z6f k.rep) (x:=s) (fun M hM=>(r2.frame hM (fun c hc hF=>by
   have h2:=l2 c hc;have h3:=h1.lt c hF;omega)).sl) (h1.q0m f2) (by simp only[xla0];omega)
  exact⟨m3,e3,q5U (t1.step0 f2) u1 w3⟩
 refine⟨m3,?_,?_⟩
 ·have e0:q00 (.agg k.cells)=some (.cells k.cells false,fun b=>.ptr (some ⟨b,0⟩)):=by rfl
  have k0:k.cells[0]? = some (.int .u64 k.seq):=by rfl
  have k1:ldN m1 (.ptr (some ⟨m.next,1⟩)) 5=some (.agg k.rep.cells):=(q1b (w1.get hq0 hq) (by simp[q1d.cells,q5W.cells])).trans rfl
  simp only[b39 (H:=H50) rfl,F91,q1,p1,q0q,q0f,e0,q0e hq0,q0e (w0.get c0.1 c0.2),q0e (w2.get c0.1 c0.2),k0,k1,e1,e2,e3]
 ·rw[show bs++q9T k=bs++q5R k.seq++q1Z (z6f k.rep) by simp only[q9T,xAg]];exact w3.ahead
abbrev z7A (x:q0L) (s:AV):List AV:=[.int .u64 x.id,.int .u64 x.seq,.int .u64 x.used,s]
theorem a8Q {x:q0L} {s:AV} (hx:x.ok) (hs:∀M,Fr m M F->q2H 6 M s (x.kept.map q1d.cells)) (h:q5v m b bs F) (hc:Wc m c b F) (hl:bs.length+(q7G x).length+100<=q0j) :
  ∃m',run E50 (.fn 89) [.agg (z7A x s),.ptr (some ⟨c,0⟩)] m=some (.undef,m')/\q1I m m' b (bs++q7G x) F:=by
 have hl':=hl;simp only[q7G,xla0]at hl';obtain⟨⟨i0,i1⟩,⟨q0,q1⟩,⟨u0,u1⟩,hk,hks⟩:=hx;have i1':x.id<18446744073709551616:=by have:x.id<=18446744073709551615:=i1;omega
 have q1':x.seq<18446744073709551616:=by have:x.seq<=18446744073709551615:=q1;omega
 have u1':x.used<18446744073709551616:=by have:x.used<=18446744073709551615:=u1;omega
 obtain⟨a,sz,cap,ex,rfl⟩:=(hs m (Fr.refl' m F)).len;generalize hse:AV.sl a sz (List.map q1d.cells x.kept).length cap ex=s at *;have f0:Fr m (m.lay (.cells (z7A x s) false)) []:=(Fr.refl m).lay _;have hq:m.next∉F:=fun hc=>xDp _ (h.lt _ hc)
 have hq0:=q0k m (.cells (z7A x s) false);have c0:Wc _ c b F:=⟨f0.get hc.1 (by simp),hc.2⟩;have w0:=(h.q0m f0).self;obtain⟨m1,e1,w1⟩:=q4P i0 i1' w0 (by omega);obtain⟨m2,e2,w2⟩:=q4P q0 q1' w1 (by simp only[xla0];have:=(q0N x.seq).2;have:=(q0N x.id).2;omega);obtain⟨m3,e3,w3⟩:=q4P u0 u1' w2 (by simp only[xla0];omega);obtain⟨m4,e4,w4⟩:=a1r (f:=q1d.cells) (enc:=q9T) (fv:=.fn (.func 91) [] [.ptr (some ⟨c,0⟩)]) (s:=s) (l:=x.kept) (by omega) (fun M hM=>hs M ((f0.any F).step hM (fun c hc=>.inl hc))) (fun a ha M bs hM hb=>by
  obtain⟨F',g1,g2,g3⟩:=hM;obtain⟨m',e,w⟩:=a8R (hks a ha) g1 (c0.to g2 g3) hb;exact⟨_,m',by simp only[q1m,xAm,xAy,q4b,e];rfl,q5U g2 g3 w⟩) w3 (by simp only[xla0];omega)
 refine⟨m4,?_,?_⟩
 ·have e0:q00 (.agg (z7A x s))=some (.cells (z7A x s) false,fun b=>.ptr (some ⟨b,0⟩)):=by subst hse;rfl
  simp only[b37 (H:=H50) rfl,F89,p1,q0f,e0,q0e hq0,q0e (w1.get hq0 hq),q0e (w2.get hq0 hq),q0e (w3.get hq0 hq),q0e (w0.get c0.1 c0.2),q0e (w1.get c0.1 c0.2),q0e (w2.get c0.1 c0.2),q0e (w3.get c0.1 c0.2),e1,e2,e3,e4]
 ·rw[show bs++q7G x=bs++q5R x.id++q5R x.seq++q5R x.used++q1C q9T x.kept by simp only[q7G,xAg]];exact w4.ahead
end
end
section
open Go Go.Abs
set_option maxRecDepth 20000
set_option maxHeartbeats 800000
def Nw (m m':Mem) (s:AV) (bs:List UInt8):Prop:=∃rb,Row m' s (u8 bs) rb/\Fr m m' []/\∀c,rb=some c->m.next<=c
section
variable {m m' m1:Mem} {s x:AV} {bs new:List UInt8}
theorem Nw.fr (h:Nw m m' s bs):Fr m m' []:=by obtain ⟨_,_,h,_⟩:=h;exact h
theorem Nw.sl (h:Nw m m' s bs):Sl m' s (u8 bs):=by obtain ⟨_,h,_⟩:=h;exact h.sl
theorem Nw.nil (m:Mem):Nw m m (.sl none 0 0 0 true) []:=⟨none,.inl ⟨⟨_,_,rfl⟩,rfl,rfl⟩,Fr.refl m,by simp⟩
theorem Nw.one (m:Mem) {c:Int} (h0:0<=c) (h1:c<256):Nw m (m.lay (.cells [.int .u8 c] false)) (.sl (some ⟨m.next,0⟩) 1 1 1 true) [UInt8.ofNat c.toNat]:=by
 have hc:((UInt8.ofNat c.toNat).toNat:Int)=c:=by rw[ofNat_lt (by omega)];omega
 exact⟨some m.next,.inr ⟨m.next,[],true,rfl,rfl,by simp only[u8,List.map,hc,xBe];exact q0k _ _⟩,(Fr.refl m).lay _,fun c hc=>by cases hc;exact xnr _⟩
theorem Nw.step (h:Nw m m' s bs) (hf:Fr m' m1 []):Nw m m1 s bs:=by
 obtain⟨rb,h1,h2,h3⟩:=h;exact⟨rb,h1.frame hf (by simp),h2.step0 hf,h3⟩
theorem Nw.app (h:Nw m m' s bs) (hx:Sl m' x (u8 new)) (hl:bs.length+new.length<=q0j):∃s' m2,q0H 1 1 s x m'=some (s',m2)/\Nw m m2 s' (bs++new):=by
 obtain⟨rb,h1,h2,h3⟩:=h;obtain⟨s',m2,rb',a1,a2,a3,a4⟩:=q4h (w:=1) h1 hx (q9S new) (by simpa[u8]using hl);rw[a6R]at a2;refine⟨s',m2,a1,rb',a2,h2.step a3 (fun c hc=>.inr (by cases rb with|none=>simp at hc|some d=>simp at hc;subst hc;exact h3 _ rfl)),fun c hc=>?_⟩
 rcases a4 with rfl|rfl
 ·exact h3 c hc
 ·cases hc;exact h2.next
theorem Nw.put (h:Nw m m' s bs) {c:Int} (h0:0<=c) (h1:c<256) (hl:bs.length+1<=q0j):∃s' m2,q0H 1 1 s (.sl (some ⟨m'.next,0⟩) 1 1 1 true) (m'.lay (.cells [.int .u8 c] false))=some (s',m2)/\Nw m m2 s' (bs++[UInt8.ofNat c.toNat]):=by
 have hc:((UInt8.ofNat c.toNat).toNat:Int)=c:=by rw[ofNat_lt (by omega)];omega
 refine(h.step ((Fr.refl m').lay (.cells [.int .u8 c] false))).app (new:=[UInt8.ofNat c.toNat]) ?_ hl;have:=a0u m' (.int .u8 c);simp only[u8,List.map,hc];exact this
end
end
section
theorem a6J {m:Mem} {z v:AV} (hz:z.one=true) (hv:v.one=true) :
  stV (m.lay (.cells [z] false)) (.ptr (some ⟨m.next,0⟩)) v 1=some (m.lay (.cells [v] false)):=by
 have h:=q1B (v:=v) (vs:=[v]) (o:=0) (n:=1) (q0k m (.cells [z] false)) (q3k hv) rfl (by simp);rw[h,q1S];rfl
structure b8o (m:Mem) (q:Nat) (k:LSt) (sp sq sa:AV):Prop where
 get:m.get q=some (.cells [sp,sq,sa,.int .u64 k.latest] false)
 ps:q2H 4 m sp (k.q0d.map q0v.cells)
 qs:q2H 9 m sq (k.pairs.map q0D.cells)
 acs:q2H 4 m sa (k.q0s.map q1v.cells)
theorem b3J {m:Mem} {q:Nat} {k:LSt} {sp sq sa ss:AV} {L:List (q0L×AV)} (hb:b8o m q k sp sq sa) (hs:q2H 4 m ss (L.map fun x=>z7A x.1 x.2)) (hks:∀x∈L,q2H 6 m x.2 (x.1.kept.map q1d.cells))
  (ok:q8A k) (oks:(L.length:Int)<=16/\∀x∈L,x.1.ok) (hl:(z2F k (L.map Prod.fst)).length+100<=q0j) :
  ∃s m' rb,D50.gor 73728 [ss,.ptr (some ⟨q,0⟩)] m=some (.tup [s,.int .i64 0],m')/\Row m' s (u8 (z2F k (L.map Prod.fst))) rb/\Fr m m' []/\∀c,rb=some c->m.next<=c:=by
 obtain⟨hq,hps,hqs,has⟩:=hb;obtain⟨⟨p1,p2⟩,⟨q1,q2⟩,⟨n1,n2⟩,a1,a2⟩:=ok;have n2':k.latest<18446744073709551616:=by have:k.latest<=18446744073709551615:=n2;omega
 simp only[z2F,a0D,xla0]at hl;have hqlt:=Mem.q0u hq;obtain⟨m1,e1,h1,f1⟩:=a0J m;have hn1:=f1.next
 have hb1:=h1.lt m.next h1.b8f
 have ⟨c,hc⟩:∃c,c=m1.next:=⟨_,rfl⟩
 have ⟨m2,hm2⟩:∃m2,m2=m1.lay (.cells [.ptr (some ⟨m.next,0⟩)] false):=⟨_,rfl⟩
 have ⟨d,hd⟩:∃d,d=m2.next:=⟨_,rfl⟩
 have ⟨m3,hm3⟩:∃m3,m3=m2.lay (.cells [.fn (.func 77) [] [.ptr (some ⟨c,0⟩)]] false):=⟨_,rfl⟩;have t1:stV (m1.lay (.cells [.ptr none] false)) (.ptr (some ⟨m1.next,0⟩)) (.ptr (some ⟨m.next,0⟩)) 1=some m2:=hm2▸a6J rfl rfl
 have t2:stV (m2.lay (.cells [.nilFn] false)) (.ptr (some ⟨m2.next,0⟩)) (.fn (.func 77) [] [.ptr (some ⟨m1.next,0⟩)]) 1=some m3:=by rw[hm3,hc];exact a6J rfl rfl
 have f2:Fr m1 m2 []:=hm2▸(Fr.refl m1).lay _;have f3:Fr m2 m3 []:=hm3▸(Fr.refl m2).lay _;have fm:Fr m m3 []:=(f1.step0 f2).step0 f3;have n12:m2.next=m1.next+1:=by rw[hm2];simp
 have gc:m3.get m1.next=some (.cells [.ptr (some ⟨m.next,0⟩)] false):=f3.get (by rw[hm2];exact q0k _ _) (by simp)
 have gd:m3.get m2.next=some (.cells [.fn (.func 77) [] [.ptr (some ⟨m1.next,0⟩)]] false):=by rw[hm3,hc];exact q0k _ _
 have hcF:m1.next∉[m.next]:=by simp;omega
 have hdF:m2.next∉[m.next]:=by simp;omega
 have hqF:q∉[m.next]:=by simp;omega
 have q0:=fm.get hq (by simp);have c0:Wc m3 m1.next m.next [m.next]:=⟨gc,hcF⟩
 have w0:q1I m3 m3 m.next [] [m.next]:=((h1.q0m f2).q0m f3).self
 have far:∀M,Fr m3 M [m.next]->Fr m M [m.next]:=fun M hM=>(fm.any _).step hM (fun c hc=>.inl hc)
 have dlt:=Mem.q0u gd;have dn:∀{F':List Nat},(∀x∈F',x∈[m.next]\/m3.next<=x)->m2.next∉F':=fun h3 hc=>by
  rcases h3 _ hc with h|h
  ·exact hdF h
  ·omega
 obtain⟨m4,e4,w4⟩:=a1j (f:=q0v.cells) (enc:=q5o) (fv:=.fn (.func 81) [] [.ptr (some ⟨m1.next,0⟩),.ptr (some ⟨m2.next,0⟩)]) (s:=sp) (l:=k.q0d) (by omega) (fun M hM=>hps.q3G (far M hM) (by simp)) (fun a ha M bs hM hb=>by
  obtain⟨F',g1,g2,g3⟩:=hM;obtain⟨_,s1,o1⟩:=p2 a ha;obtain⟨m',e,w⟩:=a8N ⟨s1.1,by omega⟩ o1 g1 (c0.to g2 g3) (g2.get gd hdF) (dn g3) hb;exact⟨_,m',by simp only[q1m,xAm,xAy,q4b,e];rfl,q5U g2 g3 w⟩) w0 (by simp only[xAv];omega)
 obtain⟨m5,e5,w5⟩:=a1l (f:=q0D.cells) (enc:=q9U) (fv:=.fn (.func 85) [] [.ptr (some ⟨m1.next,0⟩),.ptr (some ⟨m2.next,0⟩)]) (s:=sq) (l:=k.pairs) (by omega) (fun M hM=>hqs.q3G (far M hM) (by simp)) (fun a ha M bs hM hb=>by
  obtain⟨F',g1,g2,g3⟩:=hM;obtain⟨_,_,s1,o1⟩:=q2 a ha;obtain⟨m',e,w⟩:=a8O ⟨s1.1,by omega⟩ o1 g1 (c0.to g2 g3) (g2.get gd hdF) (dn g3) hb;exact⟨_,m',by simp only[q1m,xAm,xAy,q4b,e];rfl,q5U g2 g3 w⟩) w4 (by simp only[xla0,xAv];omega)
 have hv:=(q0N k.latest);have hva:1<=(q1C j1S k.q0s).length:=by have:=(q0N (k.q0s.length:Int)).1;simp only[q1C,xla0];omega
 obtain⟨m6,e6,w6⟩:=q4P n1 n2' w5 (by simp only[xla0,xAv];omega);obtain⟨m7,e7,w7⟩:=a1n (f:=q1v.cells) (enc:=j1S) (fv:=.fn (.func 87) [] [.ptr (some ⟨m1.next,0⟩),.ptr (some ⟨m2.next,0⟩)]) (s:=sa) (l:=k.q0s) (by omega) (fun M hM=>has.q3G (far M hM) (by simp)) (fun a ha M bs hM hb=>by
  obtain⟨F',g1,g2,g3⟩:=hM;obtain⟨s1,_,o1⟩:=a2 a ha;have s2:a.id<18446744073709551616:=by have:a.id<=18446744073709551615:=s1.2;omega
  obtain⟨m',e,w⟩:=a8P ⟨s1.1,s2⟩ o1 g1 (c0.to g2 g3) (g2.get gd hdF) (dn g3) hb;exact⟨_,m',by simp only[q1m,xAm,xAy,q4b,e];rfl,q5U g2 g3 w⟩) w6 (by simp only[xla0,xAv];omega)
 have hvs:q1C q7G (L.map Prod.fst)=q1C (fun x:q0L×AV=>q7G x.1) L:=by
  simp only[q1C,xlm,List.flatMap_map]
 rw[hvs]at hl;obtain⟨m8,e8,w8⟩:=a1p (f:=fun x:q0L×AV=>z7A x.1 x.2) (enc:=fun x=>q7G x.1) (fv:=.fn (.func 89) [] [.ptr (some ⟨m1.next,0⟩)]) (s:=ss) (l:=L) (by omega) (fun M hM=>hs.q3G (far M hM) (by simp)) (fun a ha M bs hM hb=>by
  obtain⟨F',g1,g2,g3⟩:=hM;obtain⟨m',e,w⟩:=a8Q (s:=a.2) (oks.2 a ha) (fun M' hM'=>(hks a ha).q3G ((far M g2).step hM' (fun c hc=>(g3 c hc).imp_right (fun h=>xnt0 fm.next h))) (by simp)) g1 (c0.to g2 g3) hb
  exact⟨_,m',by simp only[q1m,xAm,xAy,q4b,e];rfl,q5U g2 g3 w⟩) w7 (by simp only[xla0,xAv];omega)
 obtain⟨s,m9,rb,e9,r9,f9,l9⟩:=j0f w8 (by simp only[xla0,xAv];omega);have f8:Fr m m8 []:=by
  obtain⟨_,_,g,_⟩:=w8;exact fm.step g (fun c hc=>by simp at hc;exact .inr (by omega))
 refine⟨s,m9,rb,?_,?_,f8.step f9 (by simp),fun c hc=>xnt0 f8.next (l9 c hc)⟩
 ·rw[a2n];simp only[a7h,pB,q0f,e1,t1,t2,q0e gc,q0e q0,q0e (w4.get gc hcF),q0e (w4.get q0 hqF),q0e (w5.get gc hcF),q0e (w5.get q0 hqF),q0e (w6.get gc hcF),q0e (w6.get q0 hqF),q0e (w7.get gc hcF),q0e (w8.get gc hcF),e4,e5,e6,e7,e8,e9]
 ·rw[show z2F k (L.map Prod.fst)=[]++q1C q5o k.q0d++q1C q9U k.pairs++q5R k.latest++q1C j1S k.q0s++q1C (fun x:q0L×AV=>q7G x.1) L by simp only[z2F,a0D,hvs,xAg,xAm]]
  exact r9
end
section
open Go Go.Abs
set_option maxRecDepth 20000
set_option maxHeartbeats 800000
theorem z6X {m m':Mem} {b o:Nat} (hf:Fr m m' []) (hb:b<m.next):ld1 m' (.ptr (some ⟨b,o⟩))=ld1 m (.ptr (some ⟨b,o⟩)):=by
 simp only[ld1,hf.2 b hb (by simp)]
section
variable {m:Mem} {ss tt:AV} {L K:List (q0L×AV)}
theorem z0y (h:SsV m ss L) (hk:∀x∈L,x.1.kept.length*48<=q0j) (hL:L.length*48<=q0j):∀(d i:Nat) (M:Mem) (s:AV) (C:List (q0L×AV×Option Nat)) (r:Option Nat),i+d=L.length->Fr m M []->SsA M s C r m.next->C.map Prod.fst=(sOf L).take i->
  ∃s' C' r' M',D50.gor 69632 [ss,s,.int .i64 (i:Int)] M=some (s',M')/\SsA M' s' C' r' m.next/\Fr m M' []/\C'.map Prod.fst=sOf L
 | 0,i,M,s,C,r,hi,hf,hS,hC=>by
  have hlen:=h.t.q2e q2b;rw[xlm]at hlen;refine⟨s,C,r,M,?_,hS,hf,by rw[hC,xtl (by simp;omega)]⟩;rw[z9i];simp only[a0X,p1,p2,q0b,q0f,hlen,df (show ¬(i:Int)<(L.length:Int) by omega),a2m (H:=H50),a7g,q0f]
 |d+1,i,M,s,C,r,hi,hf,hS,hC=>by
  have hlen:=h.t.q2e q2b;rw[xlm]at hlen;have hil:i<L.length:=by omega
  have hM:=h.q0m hf;obtain⟨bb,oo,hbb,a1,a2,_,a4⟩:=hM.t.ixT q2b q7t (i:=i) (by simpa using hil);obtain⟨y,hy⟩:∃y,y=L[i]:=⟨_,rfl⟩;rw[xgm,<-hy]at a2 a4;have hyL:y∈L:=hy▸xAf hil;obtain⟨x,sl⟩:=y;have kv:=hM.k _ hyL;have kl:=hk _ hyL;simp only at a2 a4 kv kl;have hone:(q1k x sl).all AV.one=true:=by simp only[q1k,xBq,kv.one,xCw];rfl
  have eb:=(q1T (m:=M) (zs:=[.int .u64 0,.int .u64 0,.int .u64 0,.sl none 0 0 0 true]) (cs:=q1k x sl) (n:=4) rfl rfl hone).1;obtain⟨M1,hM1⟩:∃M1,M1=M.lay (.cells (q1k x sl) false):=⟨_,rfl⟩;rw[<-hM1]at eb;have f1:Fr M M1 []:=hM1▸(Fr.refl M).lay _;have g1:M1.get M.next=some (.cells (q1k x sl) false):=by rw[hM1];exact q0k _ _
  have n1:M1.next=M.next+1:=by rw[hM1];simp
  obtain⟨M2,hM2⟩:∃M2,M2=M1.lay (.cells [] false):=⟨_,rfl⟩;have f2:Fr M1 M2 []:=hM2▸(Fr.refl M1).lay _;have n2:M2.next=M.next+2:=by rw[hM2];simp[n1]
  have g2:=f2.get g1 (by simp);have f12:=f1.step0 f2;have lk:ld1 M2 (.ptr (some ⟨bb,oo+3⟩))=some sl:=(z6X f12 hbb).trans ((a2 3 (by omega)).trans rfl);have hmx:q0j<=9223372036854775807:=by decide
  obtain⟨s3,M3,r3,e3,t3,f3,o3⟩:=q3B (w:=48) (q08.lit 6 (m:=M2) (b:=M1.next) (by rw[hM2];exact q0k _ _)) (kv.q0m f12) (by simp;omega)
  rw[xAm]at t3;have n3:=f3.next
  have g3:=f3.get g2 (by simp;omega);have e4:=q1B (v:=s3) (vs:=[s3]) (o:=3) (n:=1) g3 (q3k t3.one) rfl (by simp);obtain⟨M4,hM4⟩:∃M4,M4=M3.put M.next (some (.cells (q1k x s3) false)):=⟨_,rfl⟩
  have e4':stV M3 (.ptr (some ⟨M.next,3⟩)) s3 1=some M4:=by rw[e4,hM4];rfl
  have f4:Fr M3 M4 [M.next]:=hM4▸Fr.put _ _ _
  have g4:M4.get M.next=some (.cells (q1k x s3) false):=hM4▸q0x g3
  have n4:=f4.next
  have r3n:r3=M1.next\/M2.next<=r3:=o3
  have t4:=t3.frame f4 (fun c hc=>by cases hc;simp;omega)
  have hone3:(q1k x s3).all AV.one=true:=by simp only[q1k,xBq,t3.one,xCw];rfl
  have l4:ldN M4 (.ptr (some ⟨M.next,0⟩)) 4=some (.agg (q1k x s3)):=q0X g4 rfl
  obtain⟨M5,hM5⟩:∃M5,M5=M4.lay (.cells (q1k x s3) false):=⟨_,rfl⟩;have f5:Fr M4 M5 []:=hM5▸(Fr.refl M4).lay _;have g5:M5.get M4.next=some (.cells (q1k x s3) false):=by rw[hM5];exact q0k _ _
  have n5:M5.next=M4.next+1:=by rw[hM5];simp
  have fM5:Fr M M5 []:=((f12.step f3 (fun c hc=>by simp at hc;exact .inr (by omega))).step f4 (fun c hc=>by simp at hc;exact .inr (by omega))).step0 f5
  have S5:=hS.frame fM5 (by simp);have hCl:C.length=i:=by
   have:=xFa List.length hC;simp at this;omega
  obtain⟨s6,M6,e6,t6,n6,f6⟩:=q4s (w:=48) (by omega) S5.t g5 rfl hone3 (by simp;omega);have hmn:=hf.next
  have hrr:∀c,c∈r.toList->m.next<=c:=fun c hc=>hS.g c (by simpa using hc)
  have hrl:∀c,r=some c->c<M.next:=fun c hc=>by have h3:=hS.t;rw[hc]at h3;exact h3.lt
  have t5:=t4.frame f5 (by simp);have S6:SsA M6 s6 (C++[(x,s3,some r3)]) (some M5.next) m.next:=by
   refine⟨by simpa using t6,fun c hc=>by cases hc;omega,fun y hy=>?_⟩
   rcases xma.1 hy with hy|hy
   ·obtain⟨y1,y2⟩:=S5.k y hy;refine⟨y1.frame f6 (fun c hc h=>(y2 c hc).2 (by simpa using h)),fun c hc=>⟨(y2 c hc).1,fun h=>?_⟩⟩
    cases h;have h3:=y1;rw[hc]at h3;have:=h3.lt;omega
   ·obtain rfl:=xms.1 hy;refine⟨t5.frame f6 (fun c hc h=>?_),fun c hc=>⟨?_,fun h=>?_⟩⟩
    ·cases hc;have:=hrl _ (by simpa using h);omega
    ·cases hc;omega
    ·cases hc;cases h;have:=t5.lt;omega
  obtain⟨s',C',r',M',e7,S7,f7,h7⟩:=z0y h hk hL d (i+1) M6 s6 _ _ (by omega) ((hf.step0 fM5).step f6 (fun c hc=>.inr (hrr c hc))) S6 (by
   rw[xCx,hC,List.take_add_one,xgq (by simpa using hil)];simp[sOf,<-hy])
  refine⟨s',C',r',M',?_,S7,f7,h7⟩;have ec:=q40 (n:=4) (zs:=[.int .u64 0,.int .u64 0,.int .u64 0,.sl none 0 0 0 true]) hone3 rfl rfl;have e0:bsA 6 0 [.int .u64 0,.int .i64 0,.int .u64 0,.int .i64 0,.int .u64 0,.int .i64 0] []=some (.cells [] false,fun b=>.sl (some ⟨b,0⟩) 6 0 0 true):=by rfl
  have w5:IntKind.wrap .i64 ((i:Int)+1)=((i+1:Nat):Int):=by rw[wrap_i64 (by omega) (by omega)];omega
  have a1':∀k:IntKind,q0A TP 23 ss (.int k (i:Int))=some (.ptr (some ⟨bb,oo⟩)):=a1;rw[z9i];simp only[a0X,p1,p2,q0b,q0f,hlen,dt (show (i:Int)<(L.length:Int) by omega),a2k (H:=H50),a7e,q1,pB,apE,q0f,a1',a4,eb,e0,<-hM2,lk,e3,e4',l4,ec,<-hM5,e6,a2l (H:=H50),a7f,q0f,w5,e7]
theorem a1S (h:SsV m ss L) (hk:∀x∈L,x.1.kept.length*48<=q0j) (hL:L.length*48<=q0j) :
  ∃s C r m',run E50 (.fn 17) [ss] m=some (s,m')/\SsA m' s C r m.next/\Fr m m' []/\C.map Prod.fst=sOf L:=by
 obtain⟨s,C,r,m',e,h1,h2,h3⟩:=z0y h hk hL L.length 0 m (.sl none 0 0 0 true) [] none (by omega) (Fr.refl m) ⟨q08.nil _ _ _ _,by simp,by simp⟩ (by simp);simp only[xAz]at e;exact⟨s,C,r,m',by simp only[b3O (H:=H50) rfl,F17,q0f,e],h1,h2,h3⟩
theorem j86 (k:q1d):q0E TP .neq 143 (.agg k.cells) (.agg k.cells)=some (.bool false):=by
 obtain⟨q,c,v,⟨hi,lo⟩,s⟩:=k;have h:∀q' c' v' hi' lo' s':Int,eqA TP 50 143 (.agg [.int .u64 q,.int .i64 c,.int .u64 v,.int .i64 hi,.int .u64 lo,.int .i64 s]) (.agg [.int .u64 q',.int .i64 c',.int .u64 v',.int .i64 hi',.int .u64 lo',.int .i64 s']) =
  (match (q==q') with|true=>(match (match (c==c') with|true=>(match (v==v') with|true=>(match (match (match (hi==hi') with|true=>(match (lo==lo') with|true=>some true|false=>some false)|false=>some false) with|some true=>(match (s==s') with|true=>some true|false=>some false)|some false=>some false|none=>none) with|some true=>some true|some false=>some false|none=>none)|false=>some false)|false=>some false) with|some true=>some true|some false=>some false|none=>none)|false=>some false):=by
  intro q' c' v' hi' lo' s'
  kernel_rfl
 have h2:q0E TP .neq 143 (.agg [.int .u64 q,.int .i64 c,.int .u64 v,.int .i64 hi,.int .u64 lo,.int .i64 s]) (.agg [.int .u64 q,.int .i64 c,.int .u64 v,.int .i64 hi,.int .u64 lo,.int .i64 s])=(match eqA TP 50 143 (.agg [.int .u64 q,.int .i64 c,.int .u64 v,.int .i64 hi,.int .u64 lo,.int .i64 s]) (.agg [.int .u64 q,.int .i64 c,.int .u64 v,.int .i64 hi,.int .u64 lo,.int .i64 s]) with|some b=>some (.bool (!b))|none=>none):=by kernel_rfl
 simp only[q1d.cells,q5W.cells];rw[h2,h];simp only[beq_self_eq_true];rfl
theorem z04 {x y:q0L} {sl sk:AV} {i:Nat} {b1 o1 b2 o2:Nat} (hxy:x.kept=y.kept) (hl:x.kept.length<4611686018427387904)
  (i1:∀k:IntKind,q0A TP 23 ss (.int k (i:Int))=some (.ptr (some ⟨b1,o1⟩))) (i2:∀k:IntKind,q0A TP 23 tt (.int k (i:Int))=some (.ptr (some ⟨b2,o2⟩)))
  (l1:ld1 m (.ptr (some ⟨b1,o1+3⟩))=some sl) (l2:ld1 m (.ptr (some ⟨b2,o2+3⟩))=some sk) (v1:q2H 6 m sl (x.kept.map q1d.cells)) (v2:q2H 6 m sk (y.kept.map q1d.cells)) :
  ∀(d j:Nat),j+d=x.kept.length->D50.gor 90116 [ss,tt,.int .i64 (i:Int),.int .i64 (j:Int)] m=D50.gor 90119 [ss,tt,.int .i64 (i:Int)] m
 | 0,j,hj=>by
  have hlen:=v1.q2e q4c;rw[xlm]at hlen;rw[z9n];simp only[a02,p2,p1,q1,q0b,q0f,i1,l1,hlen,df (show ¬(j:Int)<(x.kept.length:Int) by omega)]
 |d+1,j,hj=>by
  have hlen:=v1.q2e q4c;rw[xlm]at hlen;have hjl:j<x.kept.length:=by omega
  have hjy:j<y.kept.length:=by rw[<-hxy];exact hjl
  obtain⟨ba,oa,_,a1,_,_,a4⟩:=v1.ixT q4c z1Y (i:=j) (by simpa using hjl);obtain⟨bc,oc,_,c1,_,_,c4⟩:=v2.ixT q4c z1Y (i:=j) (by simpa using hjy);rw[xgm]at a4 c4;have hkk:y.kept[j]=x.kept[j]:=by simp[hxy]
  rw[hkk]at c4;have w5:IntKind.wrap .i64 ((j:Int)+1)=((j+1:Nat):Int):=by rw[wrap_i64 (by omega) (by omega)];omega
  rw[z9n];simp only[a02,p2,p1,q1,q0b,q0f,i1,l1,hlen,dt (show (j:Int)<(x.kept.length:Int) by omega),a2y (H:=H50),a7s,q0f,i2,l2,a1,a4,c1,c4,j86,a2z (H:=H50),a7t,q0f,w5,z04 hxy hl i1 i2 l1 l2 v1 v2 d (j+1) (by omega)]
theorem z05 (h:SsV m ss L) (h':SsV m tt K) (he:sOf L=sOf K) (hk:∀x∈L,x.1.kept.length<4611686018427387904) (hL:L.length<4611686018427387904):∀(d i:Nat),i+d=L.length->D50.gor 90113 [ss,tt,.int .i64 (i:Int)] m=some (.bool true,m)
 | 0,i,hi=>by
  have hlen:=h.t.q2e q2b;rw[xlm]at hlen;rw[z9m];simp only[a01,p1,p2,q0b,q0f,hlen,df (show ¬(i:Int)<(L.length:Int) by omega),a2B (H:=H50),a7v,q0f]
 |d+1,i,hi=>by
  have hlen:=h.t.q2e q2b;rw[xlm]at hlen;have hil:i<L.length:=by omega
  have hLK:L.length=K.length:=by have:=xFa List.length he;simpa using this
  have hiK:i<K.length:=by omega
  obtain⟨b1,o1,_,a1,a2,_,_⟩:=h.t.ixT q2b q7t (i:=i) (by simpa using hil);obtain⟨b2,o2,_,c1,c2,_,_⟩:=h'.t.ixT q2b q7t (i:=i) (by simpa using hiK);have hxy:(L[i]).1=(K[i]).1:=by
   have e1:(sOf L)[i]'(by simpa using hil)=L[i].1:=by simp
   have e2:(sOf K)[i]'(by simpa using hiK)=K[i].1:=by simp
   rw[<-e1,<-e2];simp only[he]
  have v1:=h.k _ (xAf hil);have v2:=h'.k _ (xAf hiK);have hkl:=hk _ (xAf hil);rw[xgm]at a2 c2;obtain⟨Y,hY⟩:∃Y,Y=L[i]:=⟨_,rfl⟩;obtain⟨Z,hZ⟩:∃Z,Z=K[i]:=⟨_,rfl⟩;rw[<-hY]at a2 hxy v1 hkl;rw[<-hZ]at c2 hxy v2;obtain⟨x,sl⟩:=Y;obtain⟨y,sk⟩:=Z;simp only at a2 c2 hxy v1 v2 hkl;subst hxy;have l0:=(a2 0 (by omega)).trans (show _=some (AV.int .u64 x.id) from rfl);have l1:=(a2 1 (by omega)).trans (show _=some (AV.int .u64 x.seq) from rfl)
  have l2:=(a2 2 (by omega)).trans (show _=some (AV.int .u64 x.used) from rfl);have l3:=(a2 3 (by omega)).trans (show _=some sl from rfl);have k0:=(c2 0 (by omega)).trans (show _=some (AV.int .u64 x.id) from rfl);have k1:=(c2 1 (by omega)).trans (show _=some (AV.int .u64 x.seq) from rfl);have k2:=(c2 2 (by omega)).trans (show _=some (AV.int .u64 x.used) from rfl);have k3:=(c2 3 (by omega)).trans (show _=some sk from rfl)
  simp only[xna]at l0 k0;have hl1:=v1.q2e q4c;have hl2:=v2.q2e q4c;rw[xlm]at hl1 hl2;have w5:IntKind.wrap .i64 ((i:Int)+1)=((i+1:Nat):Int):=by rw[wrap_i64 (by omega) (by omega)];omega
  have hkk:=z04 (m:=m) (ss:=ss) (tt:=tt) (x:=x) (y:=x) rfl hkl a1 c1 l3 k3 v1 v2 x.kept.length 0 (by omega);simp only[xAz]at hkk;rw[z9m];simp only[a01,p1,p2,q0b,q0f,hlen,dt (show (i:Int)<(L.length:Int) by omega),a2w (H:=H50),a7q,q1,ifV,q0f,a1,c1,l0,l1,l2,l3,k0,k1,k2,k3,hl1,hl2,xAn,xbt,a2x (H:=H50),a7r,q0f,hkk,a2A (H:=H50),a7u,q0f,w5,z05 h h' he hk hL d (i+1) (by omega)]
theorem a4C (h:SsV m ss L) (h':SsV m tt K) (he:sOf L=sOf K) (hk:∀x∈L,x.1.kept.length<4611686018427387904) (hL:L.length<4611686018427387904):run E50 (.fn 22) [ss,tt] m=some (.bool true,m):=by
 have h1:=h.t.q2e q2b;have h2:=h'.t.q2e q2b;rw[xlm]at h1 h2;have hLK:L.length=K.length:=by have:=xFa List.length he;simpa using this
 have e:=z05 h h' he hk hL L.length 0 (by omega);simp only[xAz]at e;simp only[b3Q (H:=H50) rfl,F22,p1,p2,q0b,q0f,h1,h2,<-hLK,xAn,xbt,a2v (H:=H50),a7p,q0f,e]
end
end
end Go.Proofs.YtkbhcgifnnhbaaaGreatDoor
