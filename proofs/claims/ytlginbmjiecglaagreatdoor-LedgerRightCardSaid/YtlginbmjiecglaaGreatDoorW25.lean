/- Texts of one claim, put together. -/
import Derived.Test.YtlginbmjiecglaaGreatDoorW24
namespace Go.Proofs.YtlginbmjiecglaaGreatDoor
section
set_option maxRecDepth 16000
set_option maxHeartbeats 2000000
open Go Go.Abs
def j46:List AV:=[.sl none 0 0 0 true,.sl none 0 0 0 true,.sl none 0 0 0 true,.int .u64 0]
def Turned (m0:Mem) (x:R):Prop:=∃tp tq ta st M,x=some (.agg [tp,tq,ta,.int .u64 st.latest],M)/\(∀(M':Mem) (S:List Nat),Fr M M' S->(∀c,c∈S->c<m0.next)->BkV M' tp tq ta st)/\q2P st/\(st.q0a.length<=8/\st.pairs.length<=64/\st.q0j.length<=65)/\Fr m0 M []
theorem q2P.j0I {st:LSt} (ok:q2P st) (i:Nat) {x:q0r} (hx:x.out.ok/\x.name.length<4611686018427387904):q2P {st with q0a:=st.q0a.set i x} where
 small:=by obtain⟨a,b,c⟩:=ok.small;exact⟨by simpa using a,b,c⟩
 p:=fun y hy=>(List.mem_or_eq_of_mem_set hy).elim (ok.p y) (by rintro rfl;exact hx)
 q:=ok.q
 a:=ok.a
 lat:=ok.lat
theorem q2P.b0b {st:LSt} (ok:q2P st) (i:Nat) {x:q0D} (hx:x.rate.ok/\x.inx.ok/\x.q1H.ok/\x.x.length<4611686018427387904/\x.y.length<4611686018427387904):q2P {st with pairs:=st.pairs.set i x} where
 small:=by obtain⟨a,b,c⟩:=ok.small;exact⟨a,by simpa using b,c⟩
 p:=ok.p
 q:=fun y hy=>(List.mem_or_eq_of_mem_set hy).elim (ok.q y) (by rintro rfl;exact hx)
 a:=ok.a
 lat:=ok.lat
theorem q2P.q14 {st:LSt} (ok:q2P st) (i:Nat) {x:q1k} (hx:x.bal.ok/\0<=x.id/\x.id<18446744073709551616/\x.q1C.length<4611686018427387904):q2P {st with q0j:=st.q0j.set i x} where
 small:=by obtain⟨a,b,c⟩:=ok.small;exact⟨a,b,by simpa using c⟩
 p:=ok.p
 q:=ok.q
 a:=fun y hy=>(List.mem_or_eq_of_mem_set hy).elim (ok.a y) (by rintro rfl;exact hx)
 lat:=ok.lat
section
variable {m0 M:Mem} {b r a w9:Nat} {tp tq ta:AV} {st:LSt}
theorem q4u {rp rq ra:Option Nat} (hb:M.get b=some (.cells [tp,tq,ta,.int .u64 st.latest] false)) (hr:M.get r=some (.cells j46 false)) (p:q0L 4 M tp (st.q0a.map (·.cells)) rp) (q:q0L 9 M tq (st.pairs.map (·.cells)) rq) (a:q0L 4 M ta (st.q0j.map (·.cells)) ra)
  (np:∀c,rp=some c->c≠r/\m0.next<=c) (nq:∀c,rq=some c->c≠r/\m0.next<=c) (na:∀c,ra=some c->c≠r/\m0.next<=c) (hr0:m0.next<=r) (f:Fr m0 M []) (ok:q2P st) (len:st.q0a.length<=8/\st.pairs.length<=64/\st.q0j.length<=65):Turned m0 (D30.gor 28681 [.ptr (some ⟨b,0⟩),.ptr (some ⟨r,0⟩)] M):=by
 have l:=q0C (n:=4) hb rfl;have ones:[tp,tq,ta,AV.int .u64 st.latest].all AV.one=true:=by simp only[List.all_cons,List.all_nil,p.one,q.one,a.one,on1,Bool.and_true]
 have s:=q07 (n:=4) (v:=[tp,tq,ta,.int .u64 st.latest]) hr rfl rfl ones;obtain⟨M',hM'⟩:∃M',M'=M.put r (some (.cells [tp,tq,ta,.int .u64 st.latest] false)):=⟨_,rfl⟩;rw[<-hM']at s;have g2:M'.get r=some (.cells [tp,tq,ta,.int .u64 st.latest] false):=by rw[hM'];exact q0w hr
 have l2:=q0C (n:=4) g2 rfl;have f2:Fr M M' [r]:=by rw[hM'];exact Fr.put _ _ _
 have ap:∀{o:Option Nat},(∀c,o=some c->c≠r/\m0.next<=c)->∀c,o=some c->c∉[r]:=fun h c hc=>by simpa using (h c hc).1
 have aq:∀{o:Option Nat} {S:List Nat},(∀c,o=some c->c≠r/\m0.next<=c)->(∀c,c∈S->c<m0.next)->∀c,o=some c->c∉S:=fun h hS c hc hm=>by have:=(h c hc).2;have:=hS c hm;omega
 refine⟨tp,tq,ta,st,M',?_,fun _ _ hf hS=>⟨((p.frame f2 (ap np)).frame hf (aq np hS)).v,((q.frame f2 (ap nq)).frame hf (aq nq hS)).v,((a.frame f2 (ap na)).frame hf (aq na hS)).v⟩,ok,len,f.step f2 (fun c hc=>by simp only[xms]at hc;subst hc;exact .inr hr0)⟩
 simp only[j8J (H:=H30),T.a9h,q1,q0S,q0V,wp,l,s,l2]
structure TS (m0 M:Mem) (b r a w9:Nat) (tp tq ta:AV) (rp rq ra:Nat) (st:LSt) (lt:Int) (wd:Wd):Prop where
 hb:M.get b=some (.cells [tp,tq,ta,.int .u64 st.latest] false)
 hr:M.get r=some (.cells j46 false)
 ha:∃kp kq ka,M.get a=some (.cells [kp,kq,ka,.int .u64 lt] false)
 hw:M.get w9=some (.cells wd.cells false)
 p:q0L 4 M tp (st.q0a.map (·.cells)) (some rp)
 q:q0L 9 M tq (st.pairs.map (·.cells)) (some rq)
 ar:q0L 4 M ta (st.q0j.map (·.cells)) (some ra)
 nb:rp≠b/\rq≠b/\ra≠b/\r≠b
 nr:rp≠r/\rq≠r/\ra≠r
 ne:rp≠rq/\rp≠ra/\rq≠ra
 ok:q2P st
 len:st.q0a.length<=8/\st.pairs.length<=64/\st.q0j.length<=64
 lt:0<=lt/\lt<18446744073709551616
 wd:wd.ok
 fr:Fr m0 M []
 lo:m0.next<=b/\m0.next<=r/\m0.next<=rp/\m0.next<=rq/\m0.next<=ra
 co:∃ro,M.get 0=some (.cells z6x ro)
variable {rp rq ra:Nat} {lt:Int} {wd:Wd}
theorem TS.endP (S:TS m0 M b r a w9 tp tq ta rp rq ra st lt wd) {i:Nat} (hi:i<st.q0a.length) {o:Nat} {vs:List AV} {x:q0r} (ho:o+vs.length<=4) (hv:vs.all AV.one=true) (hx:(st.q0a[i].cells).take o++vs++(st.q0a[i].cells).drop (o+vs.length)=x.cells) (okx:x.out.ok/\x.name.length<4611686018427387904) :
  ∃M1,stV M (.ptr (some ⟨rp,i*4+o⟩)) (.agg vs) vs.length=some M1/\Turned m0 (D30.gor 28681 [.ptr (some ⟨b,0⟩),.ptr (some ⟨r,0⟩)] M1):=by
 obtain⟨nb1,nb2,nb3,nb4⟩:=S.nb;obtain⟨nr1,nr2,nr3⟩:=S.nr;obtain⟨ne1,ne2,ne3⟩:=S.ne;obtain⟨len1,len2,len3⟩:=S.len;obtain⟨bb,e1,e2,e3⟩:=S.p.sto (i:=i) (by rw[xlm];exact hi) ho hv;cases e1;have hs:(st.q0a.map (·.cells)).set i (((st.q0a.map fun x:q0r=>x.cells)[i]'(by rw[xlm];exact hi)).take o++vs++((st.q0a.map fun x:q0r=>x.cells)[i]'(by rw[xlm];exact hi)).drop (o+vs.length))=(st.q0a.set i x).map (·.cells):=by rw[xgm,hx,List.map_set]
 rw[hs]at e2 e3;have f:=Fr.put M rp (some (.cells ((st.q0a.set i x).map (·.cells)).flatten false));exact⟨_,e2,q4u (st:={st with q0a:=st.q0a.set i x}) (f.get S.hb (by simp;omega)) (f.get S.hr (by simp;omega)) e3 (S.q.frame f (by rintro _ ⟨⟩;simp;omega)) (S.ar.frame f (by rintro _ ⟨⟩;simp;omega)) (by rintro _ ⟨⟩;exact⟨nr1,S.lo.2.2.1⟩) (by rintro _ ⟨⟩;exact⟨nr2,S.lo.2.2.2.1⟩) (by rintro _ ⟨⟩;exact⟨nr3,S.lo.2.2.2.2⟩) S.lo.2.1
  (S.fr.step f (fun c hc=>by simp only[xms]at hc;subst hc;exact .inr S.lo.2.2.1)) (S.ok.j0I i okx) ⟨by simpa using len1,len2,by show st.q0j.length<=65;omega⟩⟩
theorem TS.a7N (S:TS m0 M b r a w9 tp tq ta rp rq ra st lt wd) {i:Nat} (hi:i<st.pairs.length) {o:Nat} {vs:List AV} {x:q0D} (ho:o+vs.length<=9) (hv:vs.all AV.one=true) (hx:(st.pairs[i].cells).take o++vs++(st.pairs[i].cells).drop (o+vs.length)=x.cells) (okx:x.rate.ok/\x.inx.ok/\x.q1H.ok/\x.x.length<4611686018427387904/\x.y.length<4611686018427387904) :
  ∃M1,stV M (.ptr (some ⟨rq,i*9+o⟩)) (.agg vs) vs.length=some M1/\Turned m0 (D30.gor 28681 [.ptr (some ⟨b,0⟩),.ptr (some ⟨r,0⟩)] M1):=by
 obtain⟨nb1,nb2,nb3,nb4⟩:=S.nb;obtain⟨nr1,nr2,nr3⟩:=S.nr;obtain⟨ne1,ne2,ne3⟩:=S.ne;obtain⟨len1,len2,len3⟩:=S.len;obtain⟨bb,e1,e2,e3⟩:=S.q.sto (i:=i) (by rw[xlm];exact hi) ho hv;cases e1;have hs:(st.pairs.map (·.cells)).set i (((st.pairs.map fun x:q0D=>x.cells)[i]'(by rw[xlm];exact hi)).take o++vs++((st.pairs.map fun x:q0D=>x.cells)[i]'(by rw[xlm];exact hi)).drop (o+vs.length))=(st.pairs.set i x).map (·.cells):=by rw[xgm,hx,List.map_set]
 rw[hs]at e2 e3;have f:=Fr.put M rq (some (.cells ((st.pairs.set i x).map (·.cells)).flatten false));exact⟨_,e2,q4u (st:={st with pairs:=st.pairs.set i x}) (f.get S.hb (by simp;omega)) (f.get S.hr (by simp;omega)) (S.p.frame f (by rintro _ ⟨⟩;simp;omega)) e3 (S.ar.frame f (by rintro _ ⟨⟩;simp;omega)) (by rintro _ ⟨⟩;exact⟨nr1,S.lo.2.2.1⟩) (by rintro _ ⟨⟩;exact⟨nr2,S.lo.2.2.2.1⟩) (by rintro _ ⟨⟩;exact⟨nr3,S.lo.2.2.2.2⟩) S.lo.2.1
  (S.fr.step f (fun c hc=>by simp only[xms]at hc;subst hc;exact .inr S.lo.2.2.2.1)) (S.ok.b0b i okx) ⟨len1,by simpa using len2,by show st.q0j.length<=65;omega⟩⟩
theorem TS.a8f (S:TS m0 M b r a w9 tp tq ta rp rq ra st lt wd) {i:Nat} (hi:i<st.q0j.length) {o:Nat} {vs:List AV} {x:q1k} (ho:o+vs.length<=4) (hv:vs.all AV.one=true) (hx:(st.q0j[i].cells).take o++vs++(st.q0j[i].cells).drop (o+vs.length)=x.cells) (okx:x.bal.ok/\0<=x.id/\x.id<18446744073709551616/\x.q1C.length<4611686018427387904) :
  ∃M1,stV M (.ptr (some ⟨ra,i*4+o⟩)) (.agg vs) vs.length=some M1/\Turned m0 (D30.gor 28681 [.ptr (some ⟨b,0⟩),.ptr (some ⟨r,0⟩)] M1):=by
 obtain⟨nb1,nb2,nb3,nb4⟩:=S.nb;obtain⟨nr1,nr2,nr3⟩:=S.nr;obtain⟨ne1,ne2,ne3⟩:=S.ne;obtain⟨len1,len2,len3⟩:=S.len;obtain⟨bb,e1,e2,e3⟩:=S.ar.sto (i:=i) (by rw[xlm];exact hi) ho hv;cases e1;have hs:(st.q0j.map (·.cells)).set i (((st.q0j.map fun x:q1k=>x.cells)[i]'(by rw[xlm];exact hi)).take o++vs++((st.q0j.map fun x:q1k=>x.cells)[i]'(by rw[xlm];exact hi)).drop (o+vs.length))=(st.q0j.set i x).map (·.cells):=by rw[xgm,hx,List.map_set]
 rw[hs]at e2 e3;have f:=Fr.put M ra (some (.cells ((st.q0j.set i x).map (·.cells)).flatten false));exact⟨_,e2,q4u (st:={st with q0j:=st.q0j.set i x}) (f.get S.hb (by simp;omega)) (f.get S.hr (by simp;omega)) (S.p.frame f (by rintro _ ⟨⟩;simp;omega)) (S.q.frame f (by rintro _ ⟨⟩;simp;omega)) e3 (by rintro _ ⟨⟩;exact⟨nr1,S.lo.2.2.1⟩) (by rintro _ ⟨⟩;exact⟨nr2,S.lo.2.2.2.1⟩) (by rintro _ ⟨⟩;exact⟨nr3,S.lo.2.2.2.2⟩) S.lo.2.1
  (S.fr.step f (fun c hc=>by simp only[xms]at hc;subst hc;exact .inr S.lo.2.2.2.2)) (S.ok.q14 i okx) ⟨len1,len2,by simp;omega⟩⟩
theorem TS.a9g (S:TS m0 M b r a w9 tp tq ta rp rq ra st lt wd) {n:Int} (hn:0<=n/\n<18446744073709551616) :
  ∃M1,stV M (.ptr (some ⟨b,3⟩)) (.int .u64 n) 1=some M1/\Turned m0 (D30.gor 28681 [.ptr (some ⟨b,0⟩),.ptr (some ⟨r,0⟩)] M1):=by
 obtain⟨nb1,nb2,nb3,nb4⟩:=S.nb;obtain⟨nr1,nr2,nr3⟩:=S.nr;obtain⟨len1,len2,len3⟩:=S.len;have s:=q1B (v:=.int .u64 n) (vs:=[.int .u64 n]) (o:=3) (n:=1) S.hb rfl rfl (by simp);have f:=Fr.put M b (some (.cells [tp,tq,ta,.int .u64 n] false));exact⟨_,s,q4u (st:={st with latest:=n}) (q0w S.hb) (f.get S.hr (by simp;omega)) (S.p.frame f (by rintro _ ⟨⟩;simp;omega)) (S.q.frame f (by rintro _ ⟨⟩;simp;omega)) (S.ar.frame f (by rintro _ ⟨⟩;simp;omega)) (by rintro _ ⟨⟩;exact⟨nr1,S.lo.2.2.1⟩) (by rintro _ ⟨⟩;exact⟨nr2,S.lo.2.2.2.1⟩) (by rintro _ ⟨⟩;exact⟨nr3,S.lo.2.2.2.2⟩) S.lo.2.1
  (S.fr.step f (fun c hc=>by simp only[xms]at hc;subst hc;exact .inr S.lo.1)) ⟨S.ok.small,S.ok.p,S.ok.q,S.ok.a,hn⟩ ⟨len1,len2,by show st.q0j.length<=65;omega⟩⟩
theorem TS.same (S:TS m0 M b r a w9 tp tq ta rp rq ra st lt wd):Turned m0 (D30.gor 28681 [.ptr (some ⟨b,0⟩),.ptr (some ⟨r,0⟩)] M):=
 q4u S.hb S.hr S.p S.q S.ar (by rintro _ ⟨⟩;exact⟨S.nr.1,S.lo.2.2.1⟩) (by rintro _ ⟨⟩;exact⟨S.nr.2.1,S.lo.2.2.2.1⟩) (by rintro _ ⟨⟩;exact⟨S.nr.2.2,S.lo.2.2.2.2⟩) S.lo.2.1 S.fr S.ok ⟨S.len.1,S.len.2.1,xnt0 S.len.2.2 (by omega)⟩
theorem z1H (S:TS m0 M b r a w9 tp tq ta rp rq ra st lt wd) (n:Int):∃s j,ixA 1 4 ⟨0,0⟩ (n % 4)=some (.ptr (some ⟨0,j⟩))/\ld1 M (.ptr (some ⟨0,j⟩))=some (.str s)/\s.length<4611686018427387904:=by
 obtain⟨ro,hc⟩:=S.co;obtain⟨s,j,h1,h2,h3⟩:=j1j hc (i:=n % 4) (by omega) (by omega);exact⟨s,j,h1,h2,by omega⟩
theorem a7z (S:TS m0 M b r a w9 tp tq ta rp rq ra st lt wd) (n k:Int) {i:Nat} (hi:i<st.q0a.length):Turned m0 (D30.gor 28672 [.int .i64 n,.ptr (some ⟨b,0⟩),.ptr (some ⟨r,0⟩),.ptr (some ⟨rp,i*4⟩),.int .i64 k] M):=by
 have okq:=S.ok.p _ (List.getElem_mem hi);by_cases h1:k=1
 ·have pk:=q0Z (H:=H30) rfl M n (n:=22) (by omega) (by omega);have wk:IntKind.wrap .i64 (n % 22-1)=n % 22-1:=wrap_i64 (by omega) (by omega);obtain⟨M1,s,t⟩:=S.endP hi (o:=1) (vs:=[.int .i64 (n % 22-1)]) (x:={st.q0a[i]with scale:=n % 22-1}) (by simp) rfl rfl okq
  have s:stV M (.ptr (some ⟨rp,i*4+1⟩)) (.int .i64 (n % 22-1)) 1=some M1:=s;simp only[z81 (H:=H30),T.a8m,p2,p1,q1,nnA,q0b,q0d,dt h1,pk,wk,s];exact t
 ·have pk:=q0Z (H:=H30) rfl M n (n:=4) (by omega) (by omega);obtain⟨s0,j,c1,c2,c3⟩:=z1H S n;obtain⟨M1,s,t⟩:=S.endP hi (o:=0) (vs:=[.str s0]) (x:={st.q0a[i]with name:=s0}) (by simp) rfl rfl ⟨okq.1,c3⟩
  have s:stV M (.ptr (some ⟨rp,i*4⟩)) (.str s0) 1=some M1:=s;simp only[z81 (H:=H30),T.a8m,p2,p1,q1,nnA,q0b,q0d,df h1,pk,c1,c2,s];exact t
theorem a7E (S:TS m0 M b r a w9 tp tq ta rp rq ra st lt wd) (n k:Int):Turned m0 (D30.gor 28680 [.int .i64 n,.ptr (some ⟨b,0⟩),.ptr (some ⟨r,0⟩),.int .i64 k] M):=by
 by_cases h1:k=12
 ·have pk:=q0Z (H:=H30) rfl M n (n:=6) (by omega) (by omega);have wk:IntKind.wrap .u64 (n % 6)=n % 6:=wrap_u64 (by omega) (by omega);obtain⟨M1,s,t⟩:=S.a9g (n:=n % 6) (by omega);simp only[z9e (H:=H30),T.a8s,p2,p1,q0b,q0d,dt h1,pk,wk,s];exact t
 ·simp only[z9e (H:=H30),T.a8s,p2,p1,q0b,q0d,df h1];exact S.same
theorem j6B (S:TS m0 M b r a w9 tp tq ta rp rq ra st lt wd) (n k:Int):Turned m0 (D30.gor 28679 [.int .i64 n,.ptr (some ⟨b,0⟩),.ptr (some ⟨a,0⟩),.ptr (some ⟨r,0⟩),.int .i64 k] M):=by
 by_cases h1:k=11
 ·obtain⟨kp,kq,ka,ha⟩:=S.ha;have a1:∀i:Nat,ld1 M (.ptr (some ⟨a,i⟩))=[kp,kq,ka,AV.int .u64 lt][i]?:=fun i=>q0f ha
  obtain⟨M1,s,t⟩:=S.a9g (n:=lt) S.lt;simp only[z9d (H:=H30),T.a8r,p2,p1,q1,q0b,q0d,dt h1,a1,s];exact t
 ·simp only[z9d (H:=H30),T.a8r,p2,p1,q1,q0b,q0d,df h1];exact a7E S n k
theorem a7D (S:TS m0 M b r a w9 tp tq ta rp rq ra st lt wd) (n k:Int) {i:Nat} (hi:i<st.pairs.length):Turned m0 (D30.gor 28678 [.int .i64 n,.ptr (some ⟨b,0⟩),.ptr (some ⟨r,0⟩),.ptr (some ⟨w9,0⟩),.ptr (some ⟨rq,i*9⟩),.int .i64 k] M):=by
 have okq:=S.ok.q _ (List.getElem_mem hi);by_cases h1:k=9
 ·have pk:=q0Z (H:=H30) rfl M n (n:=4) (by omega) (by omega);obtain⟨s0,j,c1,c2,c3⟩:=z1H S n;obtain⟨M1,s,t⟩:=S.a7N hi (o:=1) (vs:=[.str s0]) (x:={st.pairs[i]with y:=s0}) (by simp) rfl rfl ⟨okq.1,okq.2.1,okq.2.2.1,okq.2.2.2.1,c3⟩
  have s:stV M (.ptr (some ⟨rq,i*9+1⟩)) (.str s0) 1=some M1:=s;simp only[z9c (H:=H30),T.a8q,p2,q1,p1,nnA,q0b,q0d,dt h1,pk,c1,c2,s];exact t
 ·have l9:=q0C (n:=2) S.hw rfl;obtain⟨M1,s,t⟩:=S.a7N hi (o:=7) (vs:=wd.cells) (x:={st.pairs[i]with q1H:=wd}) (by simp[Wd.cells]) rfl rfl ⟨okq.1,okq.2.1,S.wd,okq.2.2.2⟩
  have s:stV M (.ptr (some ⟨rq,i*9+7⟩)) (.agg wd.cells) 2=some M1:=s;simp only[z9c (H:=H30),T.a8q,p2,q1,p1,nnA,q0b,q0d,df h1,l9,s];exact t
theorem a7C (S:TS m0 M b r a w9 tp tq ta rp rq ra st lt wd) {n:Int} (hn1:-9223372036854775808<=n) (hn2:n<9223372036854775808) (k:Int) {i:Nat} (hi:i<st.pairs.length):Turned m0 (D30.gor 28677 [.int .i64 n,.ptr (some ⟨b,0⟩),.ptr (some ⟨r,0⟩),.ptr (some ⟨w9,0⟩),.ptr (some ⟨rq,i*9⟩),.int .i64 k] M):=by
 have okq:=S.ok.q _ (List.getElem_mem hi);by_cases h1:k=8
 ·have am:=z6e (H:=H30) rfl hn1 hn2 M;obtain⟨M1,s,t⟩:=S.a7N hi (o:=2) (vs:=q0H (q1G n).1 (q1G n).2) (x:={st.pairs[i]with rate:=(q1G n).1,q06:=(q1G n).2}) (by simp[q0H]) rfl rfl ⟨q7J _,okq.2⟩
  have s:stV M (.ptr (some ⟨rq,i*9+2⟩)) (.agg (q0H (q1G n).1 (q1G n).2)) 3=some M1:=s;simp only[z9b (H:=H30),T.a8p,p2,p1,nnA,q0b,q0d,dt h1,am,s];exact t
 ·simp only[z9b (H:=H30),T.a8p,p2,p1,nnA,q0b,q0d,df h1];exact a7D S n k hi
theorem j6A (S:TS m0 M b r a w9 tp tq ta rp rq ra st lt wd) {n:Int} (hn1:-9223372036854775808<=n) (hn2:n<9223372036854775808) (k:Int):Turned m0 (D30.gor 28676 [.int .i64 n,.ptr (some ⟨b,0⟩),.ptr (some ⟨a,0⟩),.ptr (some ⟨r,0⟩),.ptr (some ⟨w9,0⟩),.int .i64 k] M):=by
 obtain⟨eQ,uQ1,uQ2⟩:=uQ;have a3:∀i:Nat,ld1 M (.ptr (some ⟨b,i⟩))=[tp,tq,ta,AV.int .u64 st.latest][i]?:=fun i=>q0f S.hb
 have l1:=S.q.v.q1M uQ1;rw[xlm]at l1;by_cases h1:k<11
 ·by_cases h2:(0:Int)<st.pairs.length
  ·have pk:=q0Z (H:=H30) rfl M n (n:=(st.pairs.length:Int)) h2 (by have:=S.len.2.1;omega);obtain⟨i,hi⟩:∃i:Nat,n % (st.pairs.length:Int)=(i:Int):=⟨_,(Int.toNat_of_nonneg (Int.emod_nonneg _ (by omega))).symm⟩;have hlt:i<st.pairs.length:=by have:=Int.emod_lt_of_pos n h2;omega
   rw[hi]at pk;obtain⟨bb,e1,x2⟩:=S.q.ixT uQ1 uQ2 (i:=i) (by rw[xlm];exact hlt);cases e1;by_cases h3:k=7
   ·have l9:=q0C (n:=2) S.hw rfl;have okq:=S.ok.q _ (List.getElem_mem hlt);obtain⟨M1,s,t⟩:=S.a7N hlt (o:=5) (vs:=wd.cells) (x:={st.pairs[i]with inx:=wd}) (by simp[Wd.cells]) rfl rfl ⟨okq.1,S.wd,okq.2.2⟩
    have s:stV M (.ptr (some ⟨rq,i*9+5⟩)) (.agg wd.cells) 2=some M1:=s;simp only[q8Z (H:=H30),T.a4R,p2,p1,q1,nnA,q0b,ifV,q0d,dt h1,a3,l1,dt h2,pk,if_true,x2,dt h3,l9,s];exact t
   ·simp only[q8Z (H:=H30),T.a4R,p2,p1,q1,nnA,q0b,ifV,q0d,dt h1,a3,l1,dt h2,pk,if_true,x2,df h3];exact a7C S hn1 hn2 k hlt
  ·simp only[q8Z (H:=H30),T.a4R,p2,p1,q1,nnA,q0b,ifV,q0d,dt h1,a3,l1,df h2];exact j6B S n k
 ·simp only[q8Z (H:=H30),T.a4R,p2,p1,q1,nnA,q0b,ifV,q0d,df h1];exact j6B S n k
theorem a7B (S:TS m0 M b r a w9 tp tq ta rp rq ra st lt wd) (n k:Int) {i:Nat} (hi:i<st.q0j.length):Turned m0 (D30.gor 28675 [.int .i64 n,.ptr (some ⟨b,0⟩),.ptr (some ⟨r,0⟩),.ptr (some ⟨ra,i*4⟩),.int .i64 k] M):=by
 have oka:=S.ok.a _ (List.getElem_mem hi);by_cases h1:k=5
 ·have pk:=q0Z (H:=H30) rfl M n (n:=4) (by omega) (by omega);obtain⟨s0,j,c1,c2,c3⟩:=z1H S n;obtain⟨M1,s,t⟩:=S.a8f hi (o:=1) (vs:=[.str s0]) (x:={st.q0j[i]with q1C:=s0}) (by simp) rfl rfl ⟨oka.1,oka.2.1,oka.2.2.1,c3⟩
  have s:stV M (.ptr (some ⟨ra,i*4+1⟩)) (.str s0) 1=some M1:=s;simp only[z9a (H:=H30),T.a8o,p2,q1,p1,sB,apE,nnA,q0b,q0d,dt h1,pk,c1,c2,s];exact t
 ·obtain⟨nb1,nb2,nb3,nb4⟩:=S.nb;obtain⟨nr1,nr2,nr3⟩:=S.nr;obtain⟨len1,len2,len3⟩:=S.len;obtain⟨lo1,lo2,lo3,lo4,lo5⟩:=S.lo;have nM:=S.fr.next
  have ltp:=S.p.lt;have ltq:=S.q.lt;have lta:=S.ar.lt;have ltb:=Mem.q0v S.hb;have ltr:=Mem.q0v S.hr;obtain⟨M1,hM1⟩:∃M1,M1=M.lay (.cells [] false):=⟨_,rfl⟩;have f1:Fr M M1 []:=by rw[hM1];exact(Fr.refl _).lay _
  have n1:M1.next=M.next+1:=by rw[hM1];rfl
  have g1:M1.get M.next=some (.cells [] false):=by rw[hM1];exact q0e _ _
  have a1:∀i:Nat,ld1 M1 (.ptr (some ⟨b,i⟩))=[tp,tq,ta,AV.int .u64 st.latest][i]?:=fun i=>q0f (f1.get S.hb (by simp))
  have ar1:=S.ar.frame f1 (by simp);obtain⟨s2,M2,r2,x2,t2,f2,q2⟩:=q2x (w:=40) (q0L.lit 4 g1) ar1.v (q04 (by simp;omega) (by decide));rw[List.nil_append]at t2;have ar2:=ar1.frame f2 (by rintro _ ⟨⟩;simp;omega)
  obtain⟨x,hx⟩:∃x,x=st.q0j[i]:=⟨_,rfl⟩;have hxi:st.q0j[i]? = some x:=by rw[xgq hi,hx]
  obtain⟨eA,uA1,uA2⟩:=uA;obtain⟨bb,e1,_,_,_,ld⟩:=ar1.reads uA1 uA2 hxi;cases e1;have ldw:∀M',M'.get ra=M1.get ra->ldN M' (.ptr (some ⟨ra,i*4⟩)) 4=some (.agg x.cells):=fun M' e=>by
   have h:=ld M1 (Fr.refl _) 0 4 (by omega);simp only[ldN,q0y,xna]at h⊢;rw[e];simpa[q1k.cells]using h
  have l1:=ldw M1 rfl;have l2:=ldw M2 (f2.2 ra (by omega) (by simp;omega));have n2:=f2.next
  have lt2:=t2.lt;obtain⟨M3,hM3⟩:∃M3,M3=M2.lay (.cells x.cells false):=⟨_,rfl⟩;have f3:Fr M2 M3 []:=by rw[hM3];exact(Fr.refl _).lay _
  have g3:M3.get M2.next=some (.cells x.cells false):=by rw[hM3];exact q0e _ _
  have n3:M3.next=M2.next+1:=by rw[hM3];rfl
  obtain⟨s4,M4,x4,t4,n4,f4⟩:=q2y (w:=40) (by omega) (t2.frame f3 (by simp)) g3 rfl rfl (q04 (by simp;omega) (by decide));have e4:st.q0j.map (·.cells)++[x.cells]=(st.q0j++[x]).map (·.cells):=by simp
  rw[e4]at t4;have F2:Fr M M2 []:=f1.step f2 (by simp);have F4:Fr M M4 []:=(F2.step0 f3).step f4 (by simp;omega);have B4:=F4.get S.hb (by simp);obtain⟨M5,hM5⟩:∃M5,M5=M4.put b (some (.cells [tp,tq,s4,.int .u64 st.latest] false)):=⟨_,rfl⟩;have s5:stV M4 (.ptr (some ⟨b,2⟩)) s4 1=some M5:=by
   have:=q1B (v:=s4) (vs:=[s4]) (o:=2) (n:=1) B4 (q3c t4.one) rfl (by simp);rw[hM5];simpa using this
  have f5:Fr M4 M5 [b]:=by rw[hM5];exact Fr.put _ _ _
  have F5:Fr M M5 [b]:=(F4.any _).step f5 (fun c hc=>.inl hc)
  have ok5:q2P {st with q0j:=st.q0j++[x]}:=⟨by obtain⟨k1,k2,k3⟩:=S.ok.small;exact⟨k1,k2,by simp;omega⟩,S.ok.p,S.ok.q,fun y hy=>by
   rcases xma.1 hy with hy|hy
   ·exact S.ok.a y hy
   ·simp only[xms]at hy;subst hy;rw[hx];exact oka,S.ok.lat⟩
  have en:=q4u (m0:=m0) (st:={st with q0j:=st.q0j++[x]}) (b:=b) (r:=r) (by rw[hM5];exact q0w B4) (F5.get S.hr (by simp;omega)) (S.p.frame F5 (by rintro _ ⟨⟩;simp;omega)) (S.q.frame F5 (by rintro _ ⟨⟩;simp;omega)) (t4.frame f5 (by rintro _ ⟨⟩;simp;omega)) (by rintro _ ⟨⟩;exact⟨nr1,S.lo.2.2.1⟩) (by rintro _ ⟨⟩;exact⟨nr2,S.lo.2.2.2.1⟩) (by rintro _ ⟨⟩;omega) lo2
   (S.fr.step F5 (fun c hc=>by simp only[xms]at hc;subst hc;exact .inr lo1)) ok5 ⟨len1,len2,by simp;omega⟩
  have bs:=q4x (n:=4) (zs:=[.int .u64 0,.str [],.int .i64 0,.int .u64 0]) (cs:=x.cells) rfl rfl rfl;have a2:∀i:Nat,ld1 M2 (.ptr (some ⟨b,i⟩))=[tp,tq,ta,AV.int .u64 st.latest][i]?:=fun i=>q0f (F2.get S.hb (by simp))
  simp only[z9a (H:=H30),T.a8o,p2,q1,p1,sB,apE,nnA,q0b,q0d,df h1,<-hM1,a1,x2,l1,l2,if_true,bs,<-hM3,x4,s5];exact en
theorem a7A (S:TS m0 M b r a w9 tp tq ta rp rq ra st lt wd) (n k:Int) {i:Nat} (hi:i<st.q0j.length):Turned m0 (D30.gor 28674 [.int .i64 n,.ptr (some ⟨b,0⟩),.ptr (some ⟨r,0⟩),.ptr (some ⟨ra,i*4⟩),.int .i64 k] M):=by
 have oka:=S.ok.a _ (List.getElem_mem hi);by_cases h1:k=4
 ·have pk:=q0Z (H:=H30) rfl M n (n:=8) (by omega) (by omega);have wk:IntKind.wrap .u64 (n % 8)=n % 8:=wrap_u64 (by omega) (by omega);obtain⟨M1,s,t⟩:=S.a8f hi (o:=0) (vs:=[.int .u64 (n % 8)]) (x:={st.q0j[i]with id:=n % 8}) (by simp) rfl rfl ⟨oka.1,by simp only;omega,by simp only;omega,oka.2.2.2⟩
  have s:stV M (.ptr (some ⟨ra,i*4⟩)) (.int .u64 (n % 8)) 1=some M1:=s;simp only[z88 (H:=H30),T.a8n,p2,p1,nnA,q0b,q0d,dt h1,pk,wk,s];exact t
 ·simp only[z88 (H:=H30),T.a8n,p2,p1,nnA,q0b,q0d,df h1];exact a7B S n k hi
theorem j6z (S:TS m0 M b r a w9 tp tq ta rp rq ra st lt wd) {n:Int} (hn1:-9223372036854775808<=n) (hn2:n<9223372036854775808) (k:Int):Turned m0 (D30.gor 28673 [.int .i64 n,.ptr (some ⟨b,0⟩),.ptr (some ⟨a,0⟩),.ptr (some ⟨r,0⟩),.ptr (some ⟨w9,0⟩),.int .i64 k] M):=by
 obtain⟨eA,uA1,uA2⟩:=uA;have a3:∀i:Nat,ld1 M (.ptr (some ⟨b,i⟩))=[tp,tq,ta,AV.int .u64 st.latest][i]?:=fun i=>q0f S.hb
 have l1:=S.ar.v.q1M uA1;rw[xlm]at l1;by_cases h1:k<7
 ·by_cases h2:(0:Int)<st.q0j.length
  ·have pk:=q0Z (H:=H30) rfl M n (n:=(st.q0j.length:Int)) h2 (by have:=S.len.2.2;omega);obtain⟨i,hi⟩:∃i:Nat,n % (st.q0j.length:Int)=(i:Int):=⟨_,(Int.toNat_of_nonneg (Int.emod_nonneg _ (by omega))).symm⟩;have hlt:i<st.q0j.length:=by have:=Int.emod_lt_of_pos n h2;omega
   rw[hi]at pk;obtain⟨bb,e1,x2⟩:=S.ar.ixT uA1 uA2 (i:=i) (by rw[xlm];exact hlt);cases e1;by_cases h3:k=3
   ·have l9:=q0C (n:=2) S.hw rfl;have oka:=S.ok.a _ (List.getElem_mem hlt);obtain⟨M1,s,t⟩:=S.a8f hlt (o:=2) (vs:=wd.cells) (x:={st.q0j[i]with bal:=wd}) (by simp[Wd.cells]) rfl rfl ⟨S.wd,oka.2⟩
    have s:stV M (.ptr (some ⟨ra,i*4+2⟩)) (.agg wd.cells) 2=some M1:=s;simp only[q8Y (H:=H30),T.a4Q,p2,p1,q1,nnA,q0b,ifV,q0d,dt h1,a3,l1,dt h2,pk,if_true,x2,dt h3,l9,s];exact t
   ·simp only[q8Y (H:=H30),T.a4Q,p2,p1,q1,nnA,q0b,ifV,q0d,dt h1,a3,l1,dt h2,pk,if_true,x2,df h3];exact a7A S n k hlt
  ·simp only[q8Y (H:=H30),T.a4Q,p2,p1,q1,nnA,q0b,ifV,q0d,dt h1,a3,l1,df h2];exact j6A S hn1 hn2 k
 ·simp only[q8Y (H:=H30),T.a4Q,p2,p1,q1,nnA,q0b,ifV,q0d,df h1];exact j6A S hn1 hn2 k
end
theorem j0U {m:Mem} {tp tq ta kp kq ka:AV} {rp rq ra:Nat} {st:LSt} (p:q0L 4 m tp (st.q0a.map (·.cells)) (some rp)) (q:q0L 9 m tq (st.pairs.map (·.cells)) (some rq)) (a:q0L 4 m ta (st.q0j.map (·.cells)) (some ra)) (k1:kp.one=true) (k2:kq.one=true) (k3:ka.one=true)
  (ne:rp≠rq/\rp≠ra/\rq≠ra) (ok:q2P st) (len:st.q0a.length<=8/\st.pairs.length<=64/\st.q0j.length<=64) {m0:Mem} (f0:Fr m0 m []) (lo:m0.next<=rp/\m0.next<=rq/\m0.next<=ra) {ro:Bool} (hc:m.get 0=some (.cells z6x ro))
  {lt:Int} (hlt:0<=lt/\lt<18446744073709551616) (how:Int) {n:Int} (hn1:-9223372036854775808<=n) (hn2:n<9223372036854775808):Turned m0 (run E30 (.fn 7) [.agg [tp,tq,ta,.int .u64 st.latest],.agg [kp,kq,ka,.int .u64 lt],.int .i64 how,.int .i64 n] m):=by
 obtain⟨M1,hM1⟩:∃M1,M1=m.lay (.cells [tp,tq,ta,.int .u64 st.latest] false):=⟨_,rfl⟩;obtain⟨M2,hM2⟩:∃M2,M2=M1.lay (.cells [kp,kq,ka,.int .u64 lt] false):=⟨_,rfl⟩;obtain⟨M3,hM3⟩:∃M3,M3=M2.lay (.cells j46 false):=⟨_,rfl⟩;obtain⟨w,hw⟩:∃w:Wd,w=⟨n % 5-2,n.tdiv 5 % 9⟩:=⟨_,rfl⟩;have okw:w.ok:=by rw[hw];unfold Wd.ok;simp only;omega
 obtain⟨M,hM⟩:∃M,M=M3.lay (.cells w.cells false):=⟨_,rfl⟩;have f1:Fr m M1 []:=by rw[hM1];exact(Fr.refl _).lay _
 have f2:Fr M1 M2 []:=by rw[hM2];exact(Fr.refl _).lay _
 have f3:Fr M2 M3 []:=by rw[hM3];exact(Fr.refl _).lay _
 have f4:Fr M3 M []:=by rw[hM];exact(Fr.refl _).lay _
 have n1:M1.next=m.next+1:=by rw[hM1];rfl
 have n2:M2.next=m.next+2:=by rw[hM2];show M1.next+1=_;omega
 have n3:M3.next=m.next+3:=by rw[hM3];show M2.next+1=_;omega
 have F:Fr m M []:=((f1.step0 f2).step0 f3).step0 f4;have nm:=f0.next
 have ltp:=p.lt;have ltq:=q.lt;have lta:=a.lt;have S:TS m0 M m.next (m.next+2) (m.next+1) (m.next+3) tp tq ta rp rq ra st lt w:={
  hb:=((f2.step0 f3).step0 f4).get (by rw[hM1];exact q0e _ _) (by simp)
  hr:=f4.get (by rw[hM3,<-n2];exact q0e _ _) (by simp)
  ha:=⟨kp,kq,ka,(f3.step0 f4).get (by rw[hM2,<-n1];exact q0e _ _) (by simp)⟩
  hw:=by rw[hM,<-n3];exact q0e _ _
  p:=p.frame F (by simp),q:=q.frame F (by simp),ar:=a.frame F (by simp)
  nb:=⟨by omega,by omega,by omega,by omega⟩
  nr:=⟨by omega,by omega,by omega⟩
  ne:=ne,ok:=ok,len:=len,lt:=hlt,wd:=okw,fr:=f0.step0 F
  lo:=⟨by omega,by omega,lo.1,lo.2.1,lo.2.2⟩
  co:=⟨ro,F.get hc (by simp)⟩}
 have s4:stV (M3.lay (.cells [.int .i64 0,.int .u64 0] false)) (.ptr (some ⟨m.next+3,0⟩)) (.agg w.cells) 2=some M:=by rw[<-n3,q07 (n:=2) (q0e M3 _) rfl rfl rfl,q03,hM]
 have z5:(5:Int)≠0:=by omega
 have p5:=q0Z (H:=H30) rfl M3 n (n:=5) (by omega) (by omega);have q5:=q26 (P:=Tryz.prog) 3 .i64 n 5 z5;rw[q8f hn1 hn2 (by omega)]at q5;have p9:=q0Z (H:=H30) rfl M3 (n.tdiv 5) (n:=9) (by omega) (by omega);have w1:IntKind.wrap .i64 (n % 5-2)=n % 5-2:=wrap_i64 (by omega) (by omega);have w2:IntKind.wrap .u64 (n.tdiv 5 % 9)=n.tdiv 5 % 9:=wrap_u64 (by omega) (by omega);have p14:=q0Z (H:=H30) rfl M how (n:=14) (by omega) (by omega)
 obtain⟨k,hk⟩:∃k,k=how % 14:=⟨_,rfl⟩;rw[<-hk]at p14;obtain⟨eP,uP1,uP2⟩:=uP;have a3:∀i:Nat,ld1 M (.ptr (some ⟨m.next,i⟩))=[tp,tq,ta,AV.int .u64 st.latest][i]?:=fun i=>q0f S.hb
 have l1:=S.p.v.q1M uP1;rw[xlm]at l1;have hz:j46=[.sl none 0 0 0 true,.sl none 0 0 0 true,.sl none 0 0 0 true,.int .u64 0]:=rfl;rw[hz]at hM3;have hwc:w.cells=[.int .i64 (n % 5-2),.int .u64 (n.tdiv 5 % 9)]:=by rw[hw];rfl
 have s4':=s4;rw[hwc]at s4';by_cases h1:k<3
 ·by_cases h2:(0:Int)<st.q0a.length
  ·have pk:=q0Z (H:=H30) rfl M n (n:=(st.q0a.length:Int)) h2 (by have:=len.1;omega);obtain⟨i,hi⟩:∃i:Nat,n % (st.q0a.length:Int)=(i:Int):=⟨_,(Int.toNat_of_nonneg (Int.emod_nonneg _ (by omega))).symm⟩;have hlt':i<st.q0a.length:=by have:=Int.emod_lt_of_pos n h2;omega
   rw[hi]at pk;obtain⟨bb,e1,x2⟩:=S.p.ixT uP1 uP2 (i:=i) (by rw[xlm];exact hlt');cases e1;by_cases h3:k=0
   ·have l9:=q0C (n:=2) S.hw rfl;have okq:=S.ok.p _ (List.getElem_mem hlt');obtain⟨M5,s,t⟩:=S.endP hlt' (o:=2) (vs:=w.cells) (x:={st.q0a[i]with out:=w}) (by simp[Wd.cells]) rfl rfl ⟨okw,okq.2⟩
    have s:stV M (.ptr (some ⟨rp,i*4+2⟩)) (.agg w.cells) 2=some M5:=s;simp only[j1v (H:=H30) rfl,T.f7,pB,p2,p1,q1,q0n,AV.cells,Nat.reduceAdd,Nat.reduceLeDiff,q0N,nnA,q0b,ifV,q0T,on1,lcs,ge,Mem.q0q,p.one,q.one,a.one,k1,k2,k3,<-hM1,<-hM2,<-hM3,n3,p5,q5,p9,w1,w2,s4',p14,dt h1,a3,l1,dt h2,pk,x2,dt h3,l9,s];exact t
   ·simp only[j1v (H:=H30) rfl,T.f7,pB,p2,p1,q1,q0n,AV.cells,Nat.reduceAdd,Nat.reduceLeDiff,q0N,nnA,q0b,ifV,q0T,on1,lcs,ge,Mem.q0q,p.one,q.one,a.one,k1,k2,k3,<-hM1,<-hM2,<-hM3,n3,p5,q5,p9,w1,w2,s4',p14,dt h1,a3,l1,dt h2,pk,x2,df h3];exact a7z S n k hlt'
  ·simp only[j1v (H:=H30) rfl,T.f7,pB,p2,p1,q1,q0n,AV.cells,Nat.reduceAdd,Nat.reduceLeDiff,q0N,nnA,q0b,ifV,q0T,on1,lcs,ge,Mem.q0q,p.one,q.one,a.one,k1,k2,k3,<-hM1,<-hM2,<-hM3,n3,p5,q5,p9,w1,w2,s4',p14,dt h1,a3,l1,df h2];exact j6z S hn1 hn2 k
 ·simp only[j1v (H:=H30) rfl,T.f7,pB,p2,p1,q1,q0n,AV.cells,Nat.reduceAdd,Nat.reduceLeDiff,q0N,nnA,q0b,ifV,q0T,on1,lcs,ge,Mem.q0q,p.one,q.one,a.one,k1,k2,k3,<-hM1,<-hM2,<-hM3,n3,p5,q5,p9,w1,w2,s4',p14,df h1];exact j6z S hn1 hn2 k
end
section
set_option maxRecDepth 8000
set_option maxHeartbeats 1000000
open Go Go.Abs
theorem q6g {P:Program} (t:TypeId) (x y:List UInt8):q0J P .gtr t (.str x) (.str y)=some (.bool (q0c y x)):=by
 show some (AV.bool (!(q0c x y||x==y)))=_
 congr 2;cases h:q0c y x with
 |true=>
  have h1:q0c x y=false:=by
   cases h2:q0c x y with
   |false=>rfl
   |true=>have:=q05 _ _ _ h h2;rw[q0K]at this;cases this
  have h2:(x==y)=false:=by
   apply Bool.eq_false_iff.mpr;intro e;rw[eq_of_beq e,q0K]at h;cases h
  rw[h1,h2];rfl
 |false=>
  cases h2:q0c x y with
  |true=>rfl
  |false=>rw[q2J _ _ h2 h];simp
theorem z4C (a b c d:Int):q0J Tryz.prog .neq 43 (.agg [.int .i64 a,.int .u64 b]) (.agg [.int .i64 c,.int .u64 d])=some (.bool (!(decide (a=c)&&decide (b=d)))):=by
 have h:=q2g a b c d;have h2:q0J Tryz.prog .neq 43 (.agg [.int .i64 a,.int .u64 b]) (.agg [.int .i64 c,.int .u64 d])=(match eqA Tryz.prog 50 43 (.agg [.int .i64 a,.int .u64 b]) (.agg [.int .i64 c,.int .u64 d]) with|some b=>some (.bool (!b))|none=>none):=by kernel_rfl
 have h3:q0J Tryz.prog .eql 43 (.agg [.int .i64 a,.int .u64 b]) (.agg [.int .i64 c,.int .u64 d])=(match eqA Tryz.prog 50 43 (.agg [.int .i64 a,.int .u64 b]) (.agg [.int .i64 c,.int .u64 d]) with|some b=>some (.bool b)|none=>none):=by kernel_rfl
 rw[h3]at h;rw[h2];cases e:eqA Tryz.prog 50 43 (.agg [.int .i64 a,.int .u64 b]) (.agg [.int .i64 c,.int .u64 d]) with
 |none=>rw[e]at h;cases h
 |some x=>
  rw[e]at h;simp only[xoi,AV.bool.injEq]at h⊢;rw[h]
theorem q6s (k:List UInt8):∀(l:List q0r) (i:Nat),decide (q3t (fun p=>decide (p.name=k)) l i<0)=!decide (k∈l.map (·.name))
 |[],i=>by simp[q3t]
 |p::l,i=>by
  unfold q3t;by_cases h:p.name=k
  ·rw[if_pos (dt h),df (by omega),dt (by simp[h])];rfl
  ·rw[if_neg (by simpa using h),q6s k l (i+1)];congr 1;apply decide_eq_decide.mpr;simp only[List.map_cons,xmk0];exact⟨.inr,fun h'=>h'.resolve_left fun e=>h e.symm⟩
section
variable {m:Mem} {b:Nat} {sp sq sa:AV} {st:LSt} {mo:Int}
theorem j4G (h1:m.get b=some (.cells [sp,sq,sa,.int .u64 st.latest,.int .i64 mo] false)) (hv:q3K 4 m sp (st.q0a.map (·.cells))) (hn:st.q0a.length<=1000) (k:List UInt8):∀(d i:Nat),i+d=st.q0a.length->
  D19.gor 147456 [.ptr (some ⟨b,0⟩),.str k,.int .i64 (i:Int)] m=some (.int .i64 (q3t (fun p=>decide (p.name=k)) (st.q0a.drop i) i),m):=by
 obtain⟨e,he,hs⟩:=uP;have a3:∀i:Nat,ld1 m (.ptr (some ⟨b,i⟩))=[sp,sq,sa,.int .u64 st.latest,.int .i64 mo][i]?:=fun i=>q0f h1
 have l1:=hv.q1M he;rw[xlm]at l1;intro d;induction d with
 |zero=>
  intro i hi;have:i=st.q0a.length:=by omega
  subst this;rw[List.drop_length];simp only[q6p (H:=H19),T.z8V,p1,q1,p2,nnA,q0b,q0d,a3,l1,df (show ¬((st.q0a.length:Nat):Int)<(st.q0a.length:Int) by omega),z3l (H:=H19),T.j8q,wp,q3t]
 |succ d ih=>
  intro i hi;have hlt:i<st.q0a.length:=by omega
  obtain⟨bs,o,_,x2,x3,_,_⟩:=hv.ixT he hs (i:=i) (by rw[xlm];exact hlt);have e4:=x3 0 (by omega);rw[xgm]at e4;rw[List.drop_eq_getElem_cons hlt];unfold q3t;simp only[ge,xna,q0r.cells]at e4;simp only[q6p (H:=H19),T.z8V,p1,q1,p2,nnA,q0b,q0d,a3,l1,dt (show (i:Int)<(st.q0a.length:Int) by omega)];simp only[z3j (H:=H19),T.j8o,p1,q1,p2,nnA,q0b,q0d,a3,x2,e4]
  by_cases hk:st.q0a[i].name=k
  ·simp only[dt hk,if_true]
  ·simp only[df hk,xbq,if_false];simp only[z3k (H:=H19),T.j8p,p2,wp,show (i:Int)+1=((i+1:Nat):Int) by omega,wrap_i64 (n:=((i+1:Nat):Int)) (by omega) (by omega)];exact ih (i+1) (by omega)
theorem j0w {H:FuncId->Option (List AV->Mem->R)} (hh:H 36=some (q0x E19 36)) (h1:m.get b=some (.cells [sp,sq,sa,.int .u64 st.latest,.int .i64 mo] false)) (hv:q3K 4 m sp (st.q0a.map (·.cells))) (hn:st.q0a.length<=1000) (k:List UInt8) (M:Mem) (hM:Fr m M []) :
  run (T.EH H) (.fn 36) [.ptr (some ⟨b,0⟩),.str k] M=some (.int .i64 (q3t (fun p=>decide (p.name=k)) st.q0a 0),M):=
 q0s hh (by simp[AV.flat,AV.lt]) fun m2 p1 p2=>by
  have F:=hM.step0 (Fr.same p1 p2);have lo:=j4G (F.get h1 (by simp)) (hv.q0k F) hn k st.q0a.length 0 (by omega);rw[List.drop_zero]at lo;refine⟨m2,?_,Fr.refl _⟩;simp only[j5e (H:=H19) rfl,T.f36,wp];exact lo
end
theorem j6D {w:Wd} (h:w.ok):decide (w.hi<0)=!decide (0<=w.val):=by
 obtain⟨a,b,c,d⟩:=h;rw[<-decide_not];apply decide_eq_decide.mpr;unfold Wd.val;omega
theorem a7I {w:Wd} (h:w.ok) (h0:0<=w.hi):(!(decide (w.hi=0)&&decide (w.lo=0)))=!decide (w.val<=0):=by
 obtain⟨a,b,c,d⟩:=h;rw[<-Bool.decide_and];congr 1;apply decide_eq_decide.mpr;unfold Wd.val;omega
theorem a0Q {w:Wd} (h:w.ok) (h0:w.hi<0):decide (w.val<=0)=true:=by
 obtain⟨a,b,c,d⟩:=h;apply dt;unfold Wd.val;omega
section
variable {m:Mem} {bb lb:Nat} {sp sq sa:AV} {st:LSt} {mo:Int}
theorem z5x (h1:m.get bb=some (.cells [sp,sq,sa,.int .u64 st.latest] false)) (hb:BkV m sp sq sa st) (ok:q2P st):∀(d i:Nat) (M:Mem),i+d=st.q0a.length->Fr m M []->
  ∃M',Fr M M' []/\D30.gor 45057 [.ptr (some ⟨bb,0⟩),.ptr (some ⟨lb,0⟩),.int .i64 (i:Int)] M=if q2n (q7f st) d i=true then D30.gor 45060 [.ptr (some ⟨bb,0⟩),.ptr (some ⟨lb,0⟩)] M' else some (.bool false,M'):=by
 obtain⟨e,he,hs⟩:=uP;have hn:=ok.small.1;intro d;induction d with
 |zero=>
  intro i M hi hM;have:i=st.q0a.length:=by omega
  subst this;have l1:=(hb.p.q0k hM).q1M he;rw[xlm]at l1;have b1:∀i:Nat,ld1 M (.ptr (some ⟨bb,i⟩))=[sp,sq,sa,AV.int .u64 st.latest][i]?:=fun i=>q0f (hM.get h1 (by simp))
  refine⟨M,Fr.refl _,?_⟩;simp only[z2M (H:=H30),T.j74,p1,q1,p2,q0b,q0d,b1,l1,df (show ¬((st.q0a.length:Nat):Int)<(st.q0a.length:Int) by omega),q2n,if_true]
 |succ d ih=>
  intro i M hi hM;have hlt:i<st.q0a.length:=by omega
  have l1:=(hb.p.q0k hM).q1M he;rw[xlm]at l1;have b1:∀i:Nat,ld1 M (.ptr (some ⟨bb,i⟩))=[sp,sq,sa,AV.int .u64 st.latest][i]?:=fun i=>q0f (hM.get h1 (by simp))
  obtain⟨bs,o,_,x2,_,_,x5⟩:=(hb.p.q0k hM).ixT he hs (i:=i) (by rw[xlm];exact hlt);rw[xgm]at x5;obtain⟨q,hq⟩:∃q,q=st.q0a[i]:=⟨_,rfl⟩;have mq:q∈st.q0a:=by rw[hq];exact List.getElem_mem hlt
  rw[<-hq]at x5;obtain⟨M2,hM2⟩:∃M2,M2=M.lay (.cells q.cells false):=⟨_,rfl⟩;have f2:Fr M M2 []:=by rw[hM2];exact(Fr.refl M).lay _
  have F2:Fr m M2 []:=hM.step0 f2;have s2:stV (M.lay (.cells [.str [],.int .i64 0,.int .i64 0,.int .u64 0] false)) (.ptr (some ⟨M.next,0⟩)) (.agg q.cells) 4=some M2:=by rw[q07 (n:=4) (q0e M _) rfl rfl rfl,q03,hM2]
  have g2:M2.get M.next=some (.cells q.cells false):=by rw[hM2];exact q0e M _
  have a2:∀j:Nat,ld1 M2 (.ptr (some ⟨M.next,j⟩))=q.cells[j]?:=fun j=>q0f g2
  have b2:∀j:Nat,ld1 M2 (.ptr (some ⟨bb,j⟩))=[sp,sq,sa,AV.int .u64 st.latest][j]?:=fun j=>q0f (F2.get h1 (by simp))
  have hok:q7f st i=q5J st i q:=by unfold q7f;rw[xgq hlt,<-hq]
  have nm:=z4p (H:=H30) rfl q.name (ok.p q mq).2 M2;have st1:D30.gor 45057 [.ptr (some ⟨bb,0⟩),.ptr (some ⟨lb,0⟩),.int .i64 (i:Int)] M=D30.gor 45058 [.ptr (some ⟨bb,0⟩),.ptr (some ⟨lb,0⟩),.int .i64 (i:Int)] M:=by
   simp only[z2M (H:=H30),T.j74,p1,q1,p2,q0b,q0d,b1,l1,dt (show (i:Int)<(st.q0a.length:Int) by omega)]
  have nx:D30.gor 45059 [.ptr (some ⟨bb,0⟩),.ptr (some ⟨lb,0⟩),.int .i64 (i:Int)] M2=D30.gor 45057 [.ptr (some ⟨bb,0⟩),.ptr (some ⟨lb,0⟩),.int .i64 ((i+1:Nat):Int)] M2:=by
   simp only[j1B (H:=H30),T.a3q,p2,wp,show (i:Int)+1=((i+1:Nat):Int) by omega,wrap_i64 (n:=((i+1:Nat):Int)) (by omega) (by omega)]
  have rd:D30.gor 45057 [.ptr (some ⟨bb,0⟩),.ptr (some ⟨lb,0⟩),.int .i64 (i:Int)] M=if q5J st i q=true then D30.gor 45059 [.ptr (some ⟨bb,0⟩),.ptr (some ⟨lb,0⟩),.int .i64 (i:Int)] M2 else some (.bool false,M2):=by
   rw[st1];unfold q5J;simp only[q0r.cells]at x5 s2 a2;cases hnm:q3x q.name with
   |false=>
    rw[hnm]at nm;simp only[q4i (H:=H30),T.z1R,p1,q1,p2,pB,q0b,ifV,unA,q0d,b1,x2,x5,s2,a2,nm,xbf,Bool.false_and,xbq,if_false]
   |true=>
    rw[hnm]at nm;by_cases s1:q.scale<0
    ·simp only[q4i (H:=H30),T.z1R,p1,q1,p2,pB,q0b,ifV,unA,q0d,b1,x2,x5,s2,a2,nm,xbt,dt s1,df (show ¬0<=q.scale by omega),Bool.false_and,Bool.and_false,xbq,if_false]
    ·by_cases s3:18<q.scale
     ·simp only[q4i (H:=H30),T.z1R,p1,q1,p2,pB,q0b,ifV,unA,q0d,b1,x2,x5,s2,a2,nm,xbt,df s1,dt s3,df (show ¬q.scale<=18 by omega),Bool.and_false,xbq,if_false]
     ·rw[dt (show 0<=q.scale by omega),dt (show q.scale<=18 by omega)];by_cases h0:i=0
      ·have hp:q2R st.q0a i (fun r=>q0c r.name q.name)=true:=by unfold q2R;rw[dt h0,Bool.true_or]
       simp only[q4i (H:=H30),T.z1R,p1,q1,p2,pB,q0b,ifV,unA,q0d,b1,x2,x5,s2,a2,nm,xbt,df s1,df s3,df (show ¬(0:Int)<(i:Int) by omega),hp,Bool.and_self,if_true]
      ·obtain⟨bs',o',_,y2,y3,_,_⟩:=(hb.p.q0k F2).ixT he hs (i:=i-1) (by rw[xlm];omega);have y0:=y3 0 (by omega);rw[xgm]at y0;obtain⟨r,hr⟩:∃r,r=st.q0a[i-1]'(by omega):=⟨_,rfl⟩;have hr2:st.q0a[i-1]? = some r:=by rw[xgq (by omega),hr]
       rw[<-hr]at y0;simp only[ge,q0r.cells,xna]at y0;have w1:IntKind.wrap .i64 ((i:Int)-1)=((i-1:Nat):Int):=by rw[wrap_i64 (by omega) (by omega)];omega
       have hp:q2R st.q0a i (fun r=>q0c r.name q.name)=q0c r.name q.name:=by unfold q2R;rw[df h0,Bool.false_or,hr2]
       have ci:=dt (show (0:Int)<(i:Int) by omega);rw[hp];cases hl:q0c r.name q.name with
       |false=>simp only[q4i (H:=H30),T.z1R,p1,q1,p2,pB,q0b,ifV,unA,q0d,b1,x2,x5,s2,a2,nm,xbt,df s1,df s3,ci,b2,w1,y2,y0,hl,xbf,Bool.false_and,Bool.and_false,xbq,if_false]
       |true=>simp only[q4i (H:=H30),T.z1R,p1,q1,p2,pB,q0b,ifV,unA,q0d,b1,x2,x5,s2,a2,nm,xbt,df s1,df s3,ci,b2,w1,y2,y0,hl,Bool.and_self,if_true]
  rw[rd,q2n,hok,nx];cases hg:q5J st i q with
  |true=>
   obtain⟨M',g1,g2⟩:=ih (i+1) M2 (by omega) F2;exact⟨M',f2.step0 g1,by rw[if_pos rfl,g2,Bool.true_and]⟩
  |false=>exact⟨M2,f2,by rw[if_neg (by decide),Bool.false_and,if_neg (by decide)]⟩
theorem j0f (h1:m.get bb=some (.cells [sp,sq,sa,.int .u64 st.latest] false)) (hb:BkV m sp sq sa st) (ok:q2P st) {M2:Mem} (F2:Fr m M2 []) {x i:Nat} (hlt:i<st.pairs.length) {q:q0D} (hq:M2.get x=some (.cells q.cells false)) :
  D30.gor 45063 [.ptr (some ⟨bb,0⟩),.ptr (some ⟨lb,0⟩),.int .i64 (i:Int),.ptr (some ⟨x,0⟩)] M2=if q2R st.pairs i (fun r=>q0c r.x q.x||(decide (r.x=q.x)&&q0c r.y q.y))=true then D30.gor 45064 [.ptr (some ⟨bb,0⟩),.ptr (some ⟨lb,0⟩),.int .i64 (i:Int)] M2 else some (.bool false,M2):=by
 obtain⟨e,he,hs⟩:=uQ;have hn:=ok.small.2.1;have a2:∀j:Nat,ld1 M2 (.ptr (some ⟨x,j⟩))=q.cells[j]?:=fun j=>q0f hq
 have b2:∀j:Nat,ld1 M2 (.ptr (some ⟨bb,j⟩))=[sp,sq,sa,AV.int .u64 st.latest][j]?:=fun j=>q0f (F2.get h1 (by simp))
 simp only[q0D.cells]at a2;by_cases h0:i=0
 ·have hp:q2R st.pairs i (fun r=>q0c r.x q.x||(decide (r.x=q.x)&&q0c r.y q.y))=true:=by unfold q2R;rw[dt h0,Bool.true_or]
  simp only[q40 (H:=H30),T.z4T,p2,p1,q1,q0b,ifV,q0d,df (show ¬(0:Int)<(i:Int) by omega),hp,if_true]
 ·obtain⟨bs',o',_,y2,y3,_,_⟩:=(hb.q.q0k F2).ixT he hs (i:=i-1) (by rw[xlm];omega);have y0:=y3 0 (by omega);have y1:=y3 1 (by omega);rw[xgm]at y0 y1;obtain⟨r,hr⟩:∃r,r=st.pairs[i-1]'(by omega):=⟨_,rfl⟩;have hr2:st.pairs[i-1]? = some r:=by rw[xgq (by omega),hr]
  rw[<-hr]at y0 y1;simp only[ge,q0D.cells,xna]at y0 y1;have hp:q2R st.pairs i (fun r=>q0c r.x q.x||(decide (r.x=q.x)&&q0c r.y q.y))=(q0c r.x q.x||(decide (r.x=q.x)&&q0c r.y q.y)):=by unfold q2R;rw[df h0,Bool.false_or,hr2]
  have w1:IntKind.wrap .i64 ((i:Int)-1)=((i-1:Nat):Int):=by rw[wrap_i64 (by omega) (by omega)];omega
  have ci:=dt (show (0:Int)<(i:Int) by omega);rw[hp];cases hg:q0c q.x r.x with
  |true=>
   have n1:q0c r.x q.x=false:=by
    cases hl:q0c r.x q.x with
    |false=>rfl
    |true=>have:=q05 _ _ _ hl hg;rw[q0K]at this;cases this
   have n2:¬r.x=q.x:=fun e=>by rw[e,q0K]at hg;cases hg
   simp only[q40 (H:=H30),T.z4T,p2,p1,q1,q0b,ifV,q0d,q6g,ci,b2,w1,y2,y0,a2,hg,n1,df n2,Bool.false_and,Bool.or_self,xbq,if_false]
  |false=>
   by_cases hx:r.x=q.x
   ·have n1:q0c r.x q.x=false:=by rw[hx,q0K]
    cases hl:q0c r.y q.y with
    |true=>simp only[q40 (H:=H30),T.z4T,p2,p1,q1,q0b,ifV,q0d,q6g,ci,b2,w1,y2,y0,y1,a2,hg,n1,hl,dt hx,xbt,Bool.and_self,Bool.or_true,if_true]
    |false=>simp only[q40 (H:=H30),T.z4T,p2,p1,q1,q0b,ifV,q0d,q6g,ci,b2,w1,y2,y0,y1,a2,hg,n1,hl,dt hx,xbf,Bool.and_false,Bool.or_self,xbq,if_false]
   ·have n1:q0c r.x q.x=true:=by
     cases hl:q0c r.x q.x with
     |true=>rfl
     |false=>exact absurd (q2J _ _ hl hg) hx
    simp only[q40 (H:=H30),T.z4T,p2,p1,q1,q0b,ifV,q0d,q6g,ci,b2,w1,y2,y0,a2,hg,n1,df hx,Bool.true_or,if_true]
theorem j0g (h1:m.get bb=some (.cells [sp,sq,sa,.int .u64 st.latest] false)) (h2:m.get lb=some (.cells [sp,sq,sa,.int .u64 st.latest,.int .i64 mo] false)) (hb:BkV m sp sq sa st) (ok:q2P st) (h8:st.q0a.length<=8):∀(d i:Nat) (M:Mem),i+d=st.pairs.length->Fr m M []->
  ∃M',Fr M M' []/\D30.gor 45061 [.ptr (some ⟨bb,0⟩),.ptr (some ⟨lb,0⟩),.int .i64 (i:Int)] M=if q2n (q5P st) d i=true then D30.gor 45065 [.ptr (some ⟨bb,0⟩),.ptr (some ⟨lb,0⟩)] M' else some (.bool false,M'):=by
 obtain⟨e,he,hs⟩:=uQ;have hn:=ok.small.2.1;intro d;induction d with
 |zero=>
  intro i M hi hM;have:i=st.pairs.length:=by omega
  subst this;have l1:=(hb.q.q0k hM).q1M he;rw[xlm]at l1;have b1:∀i:Nat,ld1 M (.ptr (some ⟨bb,i⟩))=[sp,sq,sa,AV.int .u64 st.latest][i]?:=fun i=>q0f (hM.get h1 (by simp))
  refine⟨M,Fr.refl _,?_⟩;simp only[z2N (H:=H30),T.j75,p1,q1,p2,q0b,q0d,b1,l1,df (show ¬((st.pairs.length:Nat):Int)<(st.pairs.length:Int) by omega),q2n,if_true]
 |succ d ih=>
  intro i M hi hM;have hlt:i<st.pairs.length:=by omega
  have l1:=(hb.q.q0k hM).q1M he;rw[xlm]at l1;have b1:∀i:Nat,ld1 M (.ptr (some ⟨bb,i⟩))=[sp,sq,sa,AV.int .u64 st.latest][i]?:=fun i=>q0f (hM.get h1 (by simp))
  obtain⟨bs,o,_,x2,_,_,x5⟩:=(hb.q.q0k hM).ixT he hs (i:=i) (by rw[xlm];exact hlt);rw[xgm]at x5;obtain⟨q,hq⟩:∃q,q=st.pairs[i]:=⟨_,rfl⟩;have mq:q∈st.pairs:=by rw[hq];exact List.getElem_mem hlt
  have okq:=ok.q q mq;rw[<-hq]at x5;obtain⟨M2,hM2⟩:∃M2,M2=M.lay (.cells q.cells false):=⟨_,rfl⟩;have f2:Fr M M2 []:=by rw[hM2];exact(Fr.refl M).lay _
  have F2:Fr m M2 []:=hM.step0 f2;have s2:stV (M.lay (.cells [.str [],.str [],.int .i64 0,.int .u64 0,.int .i64 0,.int .i64 0,.int .u64 0,.int .i64 0,.int .u64 0] false)) (.ptr (some ⟨M.next,0⟩)) (.agg q.cells) 9=some M2:=by rw[q07 (n:=9) (q0e M _) rfl rfl rfl,q03,hM2]
  have g2:M2.get M.next=some (.cells q.cells false):=by rw[hM2];exact q0e M _
  have a2:∀j:Nat,ld1 M2 (.ptr (some ⟨M.next,j⟩))=q.cells[j]?:=fun j=>q0f g2
  have l2:ldN M2 (.ptr (some ⟨M.next,2⟩)) 3=some (.agg (q0H q.rate q.q06)):=by rw[q1a g2 (by simp)];rfl
  have l7:ldN M2 (.ptr (some ⟨M.next,7⟩)) 2=some (.agg [.int .i64 q.q1H.hi,.int .u64 q.q1H.lo]):=by rw[q1a g2 (by simp)];rfl
  have pX:=j0w (H:=H30) rfl h2 hb.p (by omega) q.x M2 F2;have pY:=j0w (H:=H30) rfl h2 hb.p (by omega) q.y M2 F2;have mX:=q6s q.x st.q0a 0;have mY:=q6s q.y st.q0a 0;have rr:=q9A (H:=H30) rfl okq.1 q.q06 M2;have or:=j0f (lb:=lb) h1 hb ok F2 hlt g2;have hok:q5P st i=q5b st i q:=by unfold q5P;rw[xgq hlt,<-hq]
  have st1:D30.gor 45061 [.ptr (some ⟨bb,0⟩),.ptr (some ⟨lb,0⟩),.int .i64 (i:Int)] M=D30.gor 45062 [.ptr (some ⟨bb,0⟩),.ptr (some ⟨lb,0⟩),.int .i64 (i:Int)] M:=by
   simp only[z2N (H:=H30),T.j75,p1,q1,p2,q0b,q0d,b1,l1,dt (show (i:Int)<(st.pairs.length:Int) by omega)]
  have nx:D30.gor 45064 [.ptr (some ⟨bb,0⟩),.ptr (some ⟨lb,0⟩),.int .i64 (i:Int)] M2=D30.gor 45061 [.ptr (some ⟨bb,0⟩),.ptr (some ⟨lb,0⟩),.int .i64 ((i+1:Nat):Int)] M2:=by
   simp only[j1D (H:=H30),T.a3s,p2,wp,show (i:Int)+1=((i+1:Nat):Int) by omega,wrap_i64 (n:=((i+1:Nat):Int)) (by omega) (by omega)]
  have rd:D30.gor 45061 [.ptr (some ⟨bb,0⟩),.ptr (some ⟨lb,0⟩),.int .i64 (i:Int)] M=if q5b st i q=true then D30.gor 45064 [.ptr (some ⟨bb,0⟩),.ptr (some ⟨lb,0⟩),.int .i64 (i:Int)] M2 else some (.bool false,M2):=by
   rw[st1];unfold q5b names;simp only[q0D.cells]at x5 s2 a2;generalize q2R st.pairs i (fun r=>q0c r.x q.x||(decide (r.x=q.x)&&q0c r.y q.y))=pv at or⊢
   cases hx:decide (q.x∈st.q0a.map (·.name)) with
   |false=>
    rw[hx]at mX;simp only[q2Y (H:=H30),T.q8G,p1,q1,p2,pB,q0n,q0b,ifV,q0T,b1,x2,x5,s2,a2,pX,mX,xbf,Bool.false_and,Bool.and_false,xbq,if_false]
   |true=>
    rw[hx]at mX;cases hy:decide (q.y∈st.q0a.map (·.name)) with
    |false=>
     rw[hy]at mY;simp only[q2Y (H:=H30),T.q8G,p1,q1,p2,pB,q0n,q0b,ifV,q0T,b1,x2,x5,s2,a2,pX,mX,pY,mY,xbt,xbf,Bool.false_and,Bool.and_false,xbq,if_false]
    |true=>
     rw[hy]at mY;by_cases hxy:q.x=q.y
     ·rw[dt hxy];simp only[q2Y (H:=H30),T.q8G,p1,q1,p2,pB,q0n,q0b,ifV,q0T,b1,x2,x5,s2,a2,pX,mX,pY,mY,xbt,dt hxy,Bool.false_and,Bool.and_false,xbq,if_false]
     ·rw[df hxy];by_cases hr:q29 q.rate q.q06=0
      ·rw[dt hr];rw[hr]at rr;have c5:=j6D okq.2.1;cases h0:decide (0<=q.inx.val) with
       |false=>
        rw[h0]at c5;simp only[q2Y (H:=H30),T.q8G,p1,q1,p2,pB,q0n,q0b,ifV,q0T,b1,x2,x5,s2,a2,pX,mX,pY,mY,xbt,xbf,df hxy,l2,rr,decide_true,c5,Bool.false_and,Bool.and_false,xbq,if_false]
       |true=>
        rw[h0]at c5;by_cases o0:0<=q.q1H.hi
        ·have c7:=a7I okq.2.2.1 o0;cases h7:decide (q.q1H.val<=0) with
         |false=>
          rw[h7]at c7;simp only[q2Y (H:=H30),T.q8G,p1,q1,p2,pB,q0n,q0b,ifV,q0T,b1,x2,x5,s2,a2,pX,mX,pY,mY,xbt,xbf,df hxy,l2,rr,decide_true,c5,dt o0,l7,z4C,c7,Bool.and_false,xbq,if_false]
         |true=>
          rw[h7]at c7;simp only[q2Y (H:=H30),T.q8G,p1,q1,p2,pB,q0n,q0b,ifV,q0T,b1,x2,x5,s2,a2,pX,mX,pY,mY,xbt,xbf,df hxy,l2,rr,decide_true,c5,dt o0,l7,z4C,c7,or]
        ·have c7:=a0Q okq.2.2.1 (by omega);simp only[q2Y (H:=H30),T.q8G,p1,q1,p2,pB,q0n,q0b,ifV,q0T,b1,x2,x5,s2,a2,pX,mX,pY,mY,xbt,xbf,df hxy,l2,rr,decide_true,c5,df o0,c7,or]
      ·rw[df hr];simp only[q2Y (H:=H30),T.q8G,p1,q1,p2,pB,q0n,q0b,ifV,q0T,b1,x2,x5,s2,a2,pX,mX,pY,mY,xbt,xbf,df hxy,l2,rr,df hr,Bool.false_and,Bool.and_false,xbq,if_false]
  rw[rd,q2n,hok,nx];cases hg:q5b st i q with
  |true=>
   obtain⟨M',g1,g2⟩:=ih (i+1) M2 (by omega) F2;exact⟨M',f2.step0 g1,by rw[if_pos rfl,g2,Bool.true_and]⟩
  |false=>exact⟨M2,f2,by rw[if_neg (by decide),Bool.false_and,if_neg (by decide)]⟩
theorem j4s (h1:m.get bb=some (.cells [sp,sq,sa,.int .u64 st.latest] false)) (h2:m.get lb=some (.cells [sp,sq,sa,.int .u64 st.latest,.int .i64 mo] false)) (hb:BkV m sp sq sa st) (ok:q2P st) (h8:st.q0a.length<=8):∀(d i:Nat) (M:Mem),i+d=st.q0j.length->Fr m M []->
  ∃M',Fr M M' []/\D30.gor 45066 [.ptr (some ⟨bb,0⟩),.ptr (some ⟨lb,0⟩),.int .i64 (i:Int)] M=if q2n (q5O st) d i=true then D30.gor 45069 [.ptr (some ⟨bb,0⟩)] M' else some (.bool false,M'):=by
 obtain⟨e,he,hs⟩:=uA;have hn:=ok.small.2.2;intro d;induction d with
 |zero=>
  intro i M hi hM;have:i=st.q0j.length:=by omega
  subst this;have l1:=(hb.a.q0k hM).q1M he;rw[xlm]at l1;have b1:∀i:Nat,ld1 M (.ptr (some ⟨bb,i⟩))=[sp,sq,sa,AV.int .u64 st.latest][i]?:=fun i=>q0f (hM.get h1 (by simp))
  refine⟨M,Fr.refl _,?_⟩;simp only[z0e (H:=H30),T.z7G,p1,q1,p2,q0b,q0d,b1,l1,df (show ¬((st.q0j.length:Nat):Int)<(st.q0j.length:Int) by omega),q2n,if_true]
 |succ d ih=>
  intro i M hi hM;have hlt:i<st.q0j.length:=by omega
  have l1:=(hb.a.q0k hM).q1M he;rw[xlm]at l1;have b1:∀i:Nat,ld1 M (.ptr (some ⟨bb,i⟩))=[sp,sq,sa,AV.int .u64 st.latest][i]?:=fun i=>q0f (hM.get h1 (by simp))
  obtain⟨bs,o,_,x2,_,_,x5⟩:=(hb.a.q0k hM).ixT he hs (i:=i) (by rw[xlm];exact hlt);rw[xgm]at x5;obtain⟨q,hq⟩:∃q,q=st.q0j[i]:=⟨_,rfl⟩;have mq:q∈st.q0j:=by rw[hq];exact List.getElem_mem hlt
  have okq:=ok.a q mq;rw[<-hq]at x5;obtain⟨M2,hM2⟩:∃M2,M2=M.lay (.cells q.cells false):=⟨_,rfl⟩;have f2:Fr M M2 []:=by rw[hM2];exact(Fr.refl M).lay _
  have F2:Fr m M2 []:=hM.step0 f2;have s2:stV (M.lay (.cells [.int .u64 0,.str [],.int .i64 0,.int .u64 0] false)) (.ptr (some ⟨M.next,0⟩)) (.agg q.cells) 4=some M2:=by rw[q07 (n:=4) (q0e M _) rfl rfl rfl,q03,hM2]
  have g2:M2.get M.next=some (.cells q.cells false):=by rw[hM2];exact q0e M _
  have a2:∀j:Nat,ld1 M2 (.ptr (some ⟨M.next,j⟩))=q.cells[j]?:=fun j=>q0f g2
  have b2:∀j:Nat,ld1 M2 (.ptr (some ⟨bb,j⟩))=[sp,sq,sa,AV.int .u64 st.latest][j]?:=fun j=>q0f (F2.get h1 (by simp))
  have pC:=j0w (H:=H30) rfl h2 hb.p (by omega) q.q1C M2 F2;have mC:=q6s q.q1C st.q0a 0;have c0:=j6D okq.1;have hok:q5O st i=q86 st i q:=by unfold q5O;rw[xgq hlt,<-hq]
  have st1:D30.gor 45066 [.ptr (some ⟨bb,0⟩),.ptr (some ⟨lb,0⟩),.int .i64 (i:Int)] M=D30.gor 45067 [.ptr (some ⟨bb,0⟩),.ptr (some ⟨lb,0⟩),.int .i64 (i:Int)] M:=by
   simp only[z0e (H:=H30),T.z7G,p1,q1,p2,q0b,q0d,b1,l1,dt (show (i:Int)<(st.q0j.length:Int) by omega)]
  have nx:D30.gor 45068 [.ptr (some ⟨bb,0⟩),.ptr (some ⟨lb,0⟩),.int .i64 (i:Int)] M2=D30.gor 45066 [.ptr (some ⟨bb,0⟩),.ptr (some ⟨lb,0⟩),.int .i64 ((i+1:Nat):Int)] M2:=by
   simp only[z7H (H:=H30),T.j5L,p2,wp,show (i:Int)+1=((i+1:Nat):Int) by omega,wrap_i64 (n:=((i+1:Nat):Int)) (by omega) (by omega)]
  have rd:(∀r,st.q0j[i-1]? = some r->i≠0->0<=r.id)->D30.gor 45066 [.ptr (some ⟨bb,0⟩),.ptr (some ⟨lb,0⟩),.int .i64 (i:Int)] M=if q86 st i q=true then D30.gor 45068 [.ptr (some ⟨bb,0⟩),.ptr (some ⟨lb,0⟩),.int .i64 (i:Int)] M2 else some (.bool false,M2):=by
   intro hpre;rw[st1];unfold q86 names;simp only[q1k.cells]at x5 s2 a2;obtain⟨r,hr⟩:∃r,st.q0j[i-1]? = some r:=⟨_,xgq (show i-1<st.q0j.length by omega)⟩;have hpre:=hpre r hr;rw[hr];by_cases i1:q.id<1
   ·have n1:¬((if i=0 then 0 else r.id)<q.id):=by split<;>omega
    simp only[q2D (H:=H30),T.q51,p1,q1,p2,pB,q0b,ifV,q0d,b1,x2,x5,s2,a2,dt i1,df n1,Bool.false_and,xbq,if_false]
   ·by_cases i2:st.latest<q.id
    ·simp only[q2D (H:=H30),T.q51,p1,q1,p2,pB,q0b,ifV,q0d,b1,x2,x5,s2,a2,b2,df i1,dt i2,df (show ¬q.id<=st.latest by omega),Bool.false_and,Bool.and_false,xbq,if_false]
    ·rw[dt (show q.id<=st.latest by omega)];cases hx:decide (q.q1C∈st.q0a.map (·.name)) with
     |false=>
      rw[hx]at mC;simp only[q2D (H:=H30),T.q51,p1,q1,p2,pB,q0b,ifV,q0d,b1,x2,x5,s2,a2,b2,df i1,df i2,pC,mC,xbf,Bool.false_and,Bool.and_false,xbq,if_false]
     |true=>
      rw[hx]at mC;cases hv:decide (0<=q.bal.val) with
      |false=>
       rw[hv]at c0;simp only[q2D (H:=H30),T.q51,p1,q1,p2,pB,q0b,ifV,q0d,b1,x2,x5,s2,a2,b2,df i1,df i2,pC,mC,xbt,xbf,c0,Bool.and_false,xbq,if_false]
      |true=>
       rw[hv]at c0;by_cases h0:i=0
       ·simp only[q2D (H:=H30),T.q51,p1,q1,p2,pB,q0b,ifV,q0d,b1,x2,x5,s2,a2,b2,df i1,df i2,pC,mC,xbt,c0,df (show ¬(0:Int)<(i:Int) by omega),if_pos h0,dt (show 0<q.id by omega),Bool.and_self,if_true]
       ·obtain⟨bs',o',_,y2,y3,_,_⟩:=(hb.a.q0k F2).ixT he hs (i:=i-1) (by rw[xlm];omega);have y0:=y3 0 (by omega);rw[xgm]at y0;have hr2:st.q0j[i-1]'(by omega)=r:=by rw[xgq (by omega)]at hr;exact xsj hr
        rw[hr2]at y0;simp only[ge,q1k.cells,xna]at y0;have w1:IntKind.wrap .i64 ((i:Int)-1)=((i-1:Nat):Int):=by rw[wrap_i64 (by omega) (by omega)];omega
        have ci:=dt (show (0:Int)<(i:Int) by omega);by_cases hl:r.id<q.id
        ·simp only[q2D (H:=H30),T.q51,p1,q1,p2,pB,q0b,ifV,q0d,b1,x2,x5,s2,a2,b2,df i1,df i2,pC,mC,xbt,c0,ci,w1,y2,y0,df (show ¬q.id<=r.id by omega),if_neg h0,dt hl,Bool.and_self,if_true]
        ·simp only[q2D (H:=H30),T.q51,p1,q1,p2,pB,q0b,ifV,q0d,b1,x2,x5,s2,a2,b2,df i1,df i2,pC,mC,xbt,c0,ci,w1,y2,y0,dt (show q.id<=r.id by omega),if_neg h0,df hl,Bool.false_and,xbq,if_false]
  have rd:=rd fun r hr _=>(ok.a r (List.mem_of_getElem? hr)).2.1
  rw[rd,q2n,hok,nx];cases hg:q86 st i q with
  |true=>
   obtain⟨M',g1,g2⟩:=ih (i+1) M2 (by omega) F2;exact⟨M',f2.step0 g1,by rw[if_pos rfl,g2,Bool.true_and]⟩
  |false=>exact⟨M2,f2,by rw[if_neg (by decide),Bool.false_and,if_neg (by decide)]⟩
theorem j4t (hb:BkV m sp sq sa st) (ok:q2P st):Res m (run E30 (.fn 11) [.agg [sp,sq,sa,.int .u64 st.latest],.int .i64 st.most] m) (.bool (q2p st)):=by
 obtain⟨M0,hM0⟩:∃M0,M0=m.lay (.cells [sp,sq,sa,.int .u64 st.latest] false):=⟨_,rfl⟩;obtain⟨M,hM⟩:∃M,M=M0.lay (.cells [sp,sq,sa,.int .u64 st.latest,.int .i64 st.most] false):=⟨_,rfl⟩;have f0:Fr m M0 []:=by rw[hM0];exact(Fr.refl m).lay _
 have fM:Fr M0 M []:=by rw[hM];exact(Fr.refl M0).lay _
 have n0:M0.next=m.next+1:=by rw[hM0];rfl
 have l0:ldN M0 (.ptr (some ⟨m.next,0⟩)) 4=some (.agg [sp,sq,sa,.int .u64 st.latest]):=q0C (by rw[hM0];exact q0e m _) rfl
 have g1:M.get m.next=some (.cells [sp,sq,sa,.int .u64 st.latest] false):=fM.get (by rw[hM0];exact q0e m _) (by simp)
 have g2:M.get (m.next+1)=some (.cells [sp,sq,sa,.int .u64 st.latest,.int .i64 st.most] false):=by rw[hM,<-n0];exact q0e _ _
 have f1:Fr m M []:=f0.step0 fM;have a3:∀i:Nat,ld1 M (.ptr (some ⟨m.next,i⟩))=[sp,sq,sa,.int .u64 st.latest][i]?:=fun i=>q0f g1
 obtain⟨eP,uP1,uP2⟩:=uP;obtain⟨eA,uA1,uA2⟩:=uA;have lp:=hb.p.q1M uP1;have la:=hb.a.q1M uA1;rw[xlm]at lp la;have hbM:=hb.q0k f1;unfold q2p;have no:∀{v:Bool},v=false->Res m (some (.bool false,M)) (.bool v):=fun h=>Res.eq f1 (by rw[h])
 by_cases m1:st.most<1
 ·simp only[q7P (H:=H30) rfl,T.f11,q1,p1,p2,q0n,AV.cells,Nat.reduceAdd,Nat.reduceLeDiff,q0N,q0b,ifV,q0T,on1,lcs,ge,Mem.q0q,hb.p.one,hb.q.one,hb.a.one,<-hM0,l0,<-hM,dt m1];exact no (by rw[df (show ¬1<=st.most by omega),Bool.false_and])
 ·rw[dt (show 1<=st.most by omega),Bool.true_and];by_cases m2:64<st.most
  ·simp only[q7P (H:=H30) rfl,T.f11,q1,p1,p2,q0n,AV.cells,Nat.reduceAdd,Nat.reduceLeDiff,q0N,q0b,ifV,q0T,on1,lcs,ge,Mem.q0q,hb.p.one,hb.q.one,hb.a.one,<-hM0,l0,<-hM,df m1,dt m2];exact no (by rw[df (show ¬st.most<=64 by omega),Bool.false_and])
  ·rw[dt (show st.most<=64 by omega),Bool.true_and];by_cases m3:8<(st.q0a.length:Int)
   ·simp only[q7P (H:=H30) rfl,T.f11,q1,p1,p2,q0n,AV.cells,Nat.reduceAdd,Nat.reduceLeDiff,q0N,q0b,ifV,q0T,on1,lcs,ge,Mem.q0q,hb.p.one,hb.q.one,hb.a.one,<-hM0,l0,<-hM,df m1,df m2,a3,lp,dt m3];exact no (by rw[df (show ¬st.q0a.length<=8 by omega),Bool.false_and])
   ·rw[dt (show st.q0a.length<=8 by omega),Bool.true_and];by_cases m4:st.most<(st.q0j.length:Int)
    ·simp only[q7P (H:=H30) rfl,T.f11,q1,p1,p2,q0n,AV.cells,Nat.reduceAdd,Nat.reduceLeDiff,q0N,q0b,ifV,q0T,on1,lcs,ge,Mem.q0q,hb.p.one,hb.q.one,hb.a.one,<-hM0,l0,<-hM,df m1,df m2,a3,lp,df m3,la,dt m4];exact no (by rw[df (show ¬(st.q0j.length:Int)<=st.most by omega),Bool.false_and])
    ·rw[dt (show (st.q0j.length:Int)<=st.most by omega),Bool.true_and];by_cases m5:72057594037927935<st.latest
     ·simp only[q7P (H:=H30) rfl,T.f11,q1,p1,p2,q0n,AV.cells,Nat.reduceAdd,Nat.reduceLeDiff,q0N,q0b,ifV,q0T,on1,lcs,ge,Mem.q0q,hb.p.one,hb.q.one,hb.a.one,<-hM0,l0,<-hM,df m1,df m2,a3,lp,df m3,la,df m4,dt m5];exact no (by rw[df (show ¬st.latest<=72057594037927935 by omega)];simp)
     ·rw[dt (show st.latest<=72057594037927935 by omega),Bool.and_true];obtain⟨M1,p1,p2⟩:=z5x (lb:=m.next+1) g1 hbM ok st.q0a.length 0 M (by omega) (Fr.refl _)
      simp only[Int.natCast_zero]at p2;simp only[q7P (H:=H30) rfl,T.f11,q1,q0n,AV.cells,Nat.reduceAdd,Nat.reduceLeDiff,q0N,q0b,ifV,q0T,on1,lcs,ge,Mem.q0q,hb.p.one,hb.q.one,hb.a.one,<-hM0,l0,<-hM,df m1,df m2,a3,lp,df m3,la,df m4,df m5];simp only[j1A (H:=H30),T.a3p,wp];rw[p2];have F1:=f1.step0 p1;cases hp:q2n (q7f st) st.q0a.length 0 with
      |false=>
       rw[if_neg (by decide),Bool.false_and];exact Res.eq F1 rfl
      |true=>
       rw[if_pos rfl,Bool.true_and];obtain⟨M2,q1,q2⟩:=j0g g1 g2 hbM ok (by omega) st.pairs.length 0 M1 (by omega) p1;simp only[Int.natCast_zero]at q2;simp only[j1C (H:=H30),T.a3r,wp];rw[q2];have F2:=F1.step0 q1;cases hq:q2n (q5P st) st.pairs.length 0 with
       |false=>
        rw[if_neg (by decide),Bool.false_and];exact Res.eq F2 rfl
       |true=>
        rw[if_pos rfl,Bool.true_and];obtain⟨M3,r1,r2⟩:=j4s g1 g2 hbM ok (by omega) st.q0j.length 0 M2 (by omega) (p1.step0 q1);simp only[Int.natCast_zero]at r2;simp only[j1E (H:=H30),T.a3t,wp];rw[r2];have F3:=F2.step0 r1;cases ha:q2n (q5O st) st.q0j.length 0 with
        |false=>
         rw[if_neg (by decide),Bool.false_and];exact Res.eq F3 rfl
        |true=>
         rw[if_pos rfl,Bool.true_and];have lB:ldN M3 (.ptr (some ⟨m.next,0⟩)) 4=some (.agg [sp,sq,sa,.int .u64 st.latest]):=q0C (((p1.step0 q1).step0 r1).get g1 (by simp)) rfl
         obtain⟨M4,s1,s2⟩:=j4L (hb.q0k F3) ok;simp only[z7I (H:=H30),T.j5M,wp,lB,s1];exact Res.eq (F3.step0 s2) rfl
end
end
end Go.Proofs.YtlginbmjiecglaaGreatDoor
