/- Texts of one claim, put together. -/
import Derived.Test.YtkbhcgifnnhbaaaGreatDoorK23
namespace Go.Proofs.YtkbhcgifnnhbaaaGreatDoor
open Go Go.Abs
set_option maxRecDepth 20000
set_option maxHeartbeats 400000
section
abbrev q1I (m m':Mem) (b:Nat) (bs:List UInt8) (F:List Nat):Prop:=∃F',q5v m' b bs F'/\Fr m m' F/\∀x∈F',x∈F\/m.next<=x
theorem b75 {P:Program} (t:TypeId) {x:Nat} (h:x<256):q0E P .or t (.int .u8 (x:Int)) (.int .u8 128)=some (.int .u8 ((x % 128+128:Nat):Int)):=by
 simp only[q0E,xAd,q6i];congr 2;have e:∀y:Fin 256,IntKind.wrap .u8 ((BitVec.ofInt IntKind.u8.bits (y.val:Int) ||| BitVec.ofInt IntKind.u8.bits 128).toNat:Int)=((y.val % 128+128:Nat):Int):=by decide +kernel
 exact e ⟨x,h⟩
theorem a4P {P:Program} (t:TypeId) {x:Int} (h:0<=x) (h2:x<18446744073709551616):q0E P .xor t (.int .u64 x) (.int .u64 18446744073709551615)=some (.int .u64 (18446744073709551615-x)):=by
 obtain⟨n,rfl⟩:∃n:Nat,x=n:=⟨x.toNat,by omega⟩;have e:q0E P .xor t (.int .u64 (n:Int)) (.int .u64 18446744073709551615)=some (.int .u64 (IntKind.wrap .u64 (((BitVec.ofInt 64 (n:Int) ^^^ BitVec.ofInt 64 18446744073709551615).toNat:Nat):Int))):=by
  simp only[q0E,xAd,q6i];rfl
 rw[e,show BitVec.ofInt 64 18446744073709551615=BitVec.allOnes 64 from by decide,BitVec.xor_allOnes,BitVec.toNat_not,show BitVec.ofInt 64 (n:Int)=BitVec.ofNat 64 n from BitVec.ofInt_natCast ..,BitVec.toNat_ofNat,q0i];congr 2;omega
theorem xor_zero {P:Program} (t:TypeId) {x:Int} (h:0<=x) (h2:x<18446744073709551616):q0E P .xor t (.int .u64 x) (.int .u64 0)=some (.int .u64 x):=by
 obtain⟨n,rfl⟩:∃n:Nat,x=n:=⟨x.toNat,by omega⟩;have e:q0E P .xor t (.int .u64 (n:Int)) (.int .u64 0)=some (.int .u64 (IntKind.wrap .u64 (((BitVec.ofInt 64 (n:Int) ^^^ BitVec.ofInt 64 0).toNat:Nat):Int))):=by
  simp only[q0E,xAd,q6i];rfl
 rw[e,show BitVec.ofInt 64 0=0#64 from by decide,BitVec.xor_zero,show BitVec.ofInt 64 (n:Int)=BitVec.ofNat 64 n from BitVec.ofInt_natCast ..,BitVec.toNat_ofNat,q0i];congr 2;omega
theorem q2X (x:Int):IntKind.wrap .u8 x=x % 256:=by
 simp only[IntKind.wrap];rfl
section
variable {m m' m1 m2:Mem} {b:Nat} {bs bs2:List UInt8} {F F' S:List Nat}
theorem q5U (h1:Fr m m1 F) (h2:∀x∈F',x∈F\/m.next<=x) (h3:q1I m1 m2 b bs2 F'):q1I m m2 b bs2 F:=by
 obtain⟨F2,g1,g2,g3⟩:=h3;refine⟨F2,g1,h1.step g2 h2,fun x hx=>?_⟩
 rcases g3 x hx with h|h
 ·exact h2 x h
 ·exact .inr (xnt0 h1.next h)
theorem q5v.b8f (h:q5v m b bs F):b∈F:=by obtain ⟨_,_,_,_,_,rfl⟩:=h;simp
theorem a6U (h:q5v m b bs F) (c:Int) (h0:0<=c) (h1:c<256) (hl:bs.length+1<=q0j) :
  ∃s s' m2 m3 F',ld1 m (.ptr (some ⟨b,0⟩))=some s/\q0H 1 1 s (.sl (some ⟨m.next,0⟩) 1 1 1 true) (m.lay (.cells [.int .u8 c] false))=some (s',m2)/\stV m2 (.ptr (some ⟨b,0⟩)) s' 1=some m3/\q5v m3 b (bs++[UInt8.ofNat c.toNat]) F'/\Fr m m3 F/\∀x∈F',x∈F\/m.next<=x:=by
 have hc:((UInt8.ofNat c.toNat).toNat:Int)=c:=by rw[ofNat_lt (by omega)];omega
 obtain⟨s,s',m2,m3,F',e1,e2,e3,r⟩:=z7H h ((Fr.refl m).lay (.cells [.int .u8 c] false)) (new:=[UInt8.ofNat c.toNat]) (by
  have:=a0u m (.int .u8 c);simp only[u8,List.map,hc];exact this) hl
 refine⟨s,s',m2,m3,F',?_,e2,e3,r⟩;have hb:b<m.next:=h.lt b h.b8f
 rw[<-e1];simp only[ld1,j9b (show b≠m.next by omega)]
theorem b1G:∀(k:Nat) (n:Int) (m:Mem) (bs:List UInt8) (F:List Nat),0<=n->n<18446744073709551616->n<2 ^ (7*k+7)->q5v m b bs F->bs.length+k+1<=q0j->
  ∃m',D50.gor 323584 [.ptr (some ⟨b,0⟩),.int .u64 n] m=some (.undef,m')/\q1I m m' b (bs++vnF k n.toNat) F:=by
 have last:∀(k:Nat) (n:Int) (m:Mem) (bs:List UInt8) (F:List Nat),0<=n->n<128->q5v m b bs F->bs.length+k+1<=q0j->
  ∃m',D50.gor 323584 [.ptr (some ⟨b,0⟩),.int .u64 n] m=some (.undef,m')/\q1I m m' b (bs++[UInt8.ofNat n.toNat]) F:=by
  intro k n m bs F h0 h1 h hl;obtain⟨s,s',m2,m3,F',e1,e2,e3,r⟩:=a6U h n h0 (by omega) (by omega);refine⟨m3,?_,F',r⟩;have ew:IntKind.wrap .u8 n=n:=by rw[q2X];omega
  rw[z9y];simp only[a1c,p2,q0b,q0f,df (show ¬(128:Int)<=n by omega),a2Y (H:=H50),a7S,p1,q1,apE,nnA,q0f,ew,e1,z6A (show (AV.int .u8 n).one=true from rfl),e2,e3]
 intro k;induction k with
 |zero=>
  intro n m bs F h0 h1 h2 h hl;exact last 0 n m bs F h0 (by simpa using h2) h hl
 |succ k ih=>
  intro n m bs F h0 h1 h2 h hl;by_cases hn:n<128
  ·rw[vnF,xAb (by omega)];exact last (k+1) n m bs F h0 hn h hl
  ·have ew:IntKind.wrap .u8 n=((n.toNat % 256:Nat):Int):=by rw[q2X];omega
   obtain⟨s,s',m2,m3,F',e1,e2,e3,r1,r2,r3⟩:=a6U h ((n.toNat % 256 % 128+128:Nat):Int) (by omega) (by omega) (by omega);have hd:n<128*2 ^ (7*k+7):=by
    rw[show 7*(k+1)+7=7+(7*k+7) by omega,xEr]at h2;exact h2
   obtain⟨m4,g1,g2⟩:=ih (n / 128) m3 _ F' (by omega) (by omega) (by generalize (2:Int) ^ (7*k+7)=p at *;omega) r1 (by simp only[xla0,xAi,xAv];omega);refine⟨m4,?_,?_⟩
   ·rw[z9y];have sh:q0E TP .shr 27 (.int .u64 n) (.int .u64 7)=some (.int .u64 (n / 128)):=q78 _ h0 (by omega) (by rfl);simp only[a1c,p2,q0b,q0f,dt (show (128:Int)<=n by omega),a2X (H:=H50),a7R,p1,q1,apE,nnA,q0f,ew,b75 _ (show n.toNat % 256<256 by omega),e1,z6A (show (AV.int .u8 ((n.toNat % 256 % 128+128:Nat):Int)).one=true from rfl),e2,e3,sh,g1]
   ·have e:bs++vnF (k+1) n.toNat=(bs++[UInt8.ofNat ((n.toNat % 256 % 128+128:Nat):Int).toNat])++vnF k (n / 128).toNat:=by
     rw[vnF,xAa (by omega),xAg];have e1:((n.toNat % 256 % 128+128:Nat):Int).toNat=n.toNat % 128+128:=by omega
     have e2:(n / 128).toNat=n.toNat / 128:=by omega
     rw[e1,e2];rfl
    rw[e];exact q5U r2 r3 g2
theorem q9W {n:Int} (h0:0<=n) (h1:n<18446744073709551616) (h:q5v m b bs F) (hl:bs.length+10<=q0j) :
  ∃m',run E50 (.fn 79) [.ptr (some ⟨b,0⟩),.int .u64 n] m=some (.undef,m')/\q1I m m' b (bs++q5R n) F:=by
 obtain⟨m',e,r⟩:=b1G 9 n m bs F h0 h1 (by simp;omega) h (by omega);exact⟨m',by simp only[b3W (H:=H50) rfl,F79,q0f,e],r⟩
theorem a0I {n:Int} (h0:-9223372036854775808<=n) (h1:n<9223372036854775808) (h:q5v m b bs F) (hl:bs.length+10<=q0j) :
  ∃m',run E50 (.fn 78) [.ptr (some ⟨b,0⟩),.int .i64 n] m=some (.undef,m')/\q1I m m' b (bs++a0S n) F:=by
 obtain⟨z0,z1⟩:=z6k h0 h1;obtain⟨m',e,r⟩:=q9W z0 z1 h hl;refine⟨m',?_,r⟩;have s1:∀t,q0E TP .shl t (.int .u64 (n % 18446744073709551616)) (.int .u64 1)=some (.int .u64 ((n % 18446744073709551616)*2 % 18446744073709551616)):=fun t=>by
  rw[j3M _ _ _ _ (by omega),q0i];rfl
 have s2:∀t,q0E TP .shr t (.int .i64 n) (.int .u64 63)=some (.int .i64 (if n<0 then -1 else 0)):=fun t=>by
  rw[q8I _ _ _ _ _ (by omega)];have:((2:Int) ^ (min (63:Int).toNat IntKind.i64.bits))=9223372036854775808:=by rfl
  rw[this,xDb _ (by omega)];congr 2;split<;>omega
 have s3:∀t,q0E TP .xor t (.int .u64 ((n % 18446744073709551616)*2 % 18446744073709551616)) (.int .u64 ((if n<0 then -1 else 0) % 18446744073709551616))=some (.int .u64 (zig n)):=fun t=>by
  unfold zig;by_cases hn:n<0
  ·rw[xAb hn,xAb hn,show (n % 18446744073709551616)*2 % 18446744073709551616=2*n+18446744073709551616 by omega,show (-1:Int) % 18446744073709551616=18446744073709551615 by rfl,a4P _ (by omega) (by omega)];congr 2;omega
  ·rw[xAa hn,xAa hn,show (n % 18446744073709551616)*2 % 18446744073709551616=2*n by omega,show (0:Int) % 18446744073709551616=0 by rfl,xor_zero _ (by omega) (by omega)]
 simp only[b3V (H:=H50) rfl,F78,p1,p2,q0y,s1,s2,s3,q0i,e]
theorem j0p {x:AV} {l:List UInt8} (hx:∀m',Fr m m' F->Sl m' x (u8 l)) (h:q5v m b bs F) (hl:bs.length+10+l.length<=q0j) :
  ∃m',run E50 (.fn 82) [.ptr (some ⟨b,0⟩),x] m=some (.undef,m')/\q1I m m' b (bs++q1Z l) F:=by
 have hmax:q0j<=9223372036854775807:=by decide
 have hlen:l.length<9223372036854775808:=by omega
 obtain⟨m1,e,F1,h1,r2,r3⟩:=q9W (n:=(l.length:Int)) (by omega) (by omega) h (by omega);have hv:=(q0N (l.length:Int)).2;obtain⟨s,s',m2,m3,F',e1,e2,e3,q1,q2,q3⟩:=z7H h1 (Fr.refl m1) (hx m1 r2) (by rw[xla0];omega);have hlen:=(hx m (Fr.refl' m F)).len;rw[show (u8 l).length=l.length by simp[u8]]at hlen;obtain⟨a,sz,cap,ex,rfl⟩:=hlen;have ew:IntKind.wrap .u64 (l.length:Int)=l.length:=by rw[q0i];omega
 refine⟨m3,by simp only[b3Z (H:=H50) rfl,F82,p1,apE,nnA,q0f,ew,e,e1,e2,e3],q5U r2 r3 ⟨F',?_,q2,q3⟩⟩;rw[show bs++q1Z l=bs++q5R (l.length:Int)++l by rw[q1Z,xAg]];exact q1
theorem a0H (h:q5v m b bs F) (hl:bs.length<=q0j) :
  ∃s m' rb,run E50 (.fn 93) [.ptr (some ⟨b,0⟩)] m=some (s,m')/\Row m' s (u8 bs) rb/\Fr m m' []/\∀c,rb=some c->m.next<=c:=by
 obtain⟨s,rb,h1,h2,h3,rfl⟩:=h;have f1:Fr m (m.lay (.cells [] false)) []:=(Fr.refl m).lay _;have hr:Row (m.lay (.cells [] false)) (.sl (some ⟨m.next,0⟩) 1 0 0 true) [] (some m.next):=.inr ⟨m.next,[],true,rfl,rfl,q0k _ _⟩
 obtain⟨s',m2,rb',a1,a2,a3,a4⟩:=q4h (w:=1) hr (h2.sl.frame f1 (by simp)) (q9S bs) (by simpa[u8]using hl);refine⟨s',m2,rb',?_,a2,f1.step a3 (fun c hc=>by simp at hc;exact .inr (by omega)),fun c hc=>?_⟩
 ·have e1:ld1 (m.lay (.cells [] false)) (.ptr (some ⟨b,0⟩))=some s:=by
   rw[q0e (f1.get h1 (by simp))];rfl
  have e0:bsA 1 0 [.int .u8 0] []=some (.cells [] false,fun b=>.sl (some ⟨b,0⟩) 1 0 0 true):=by rfl
  simp only[b4b (H:=H50) rfl,F93,p1,q1,apE,nnA,q0f,e0,e1,a1]
 ·rcases a4 with rfl|rfl
  ·cases hc;exact xnr _
  ·cases hc;exact f1.next
theorem a0J (m:Mem):∃m' ,run E50 (.fn 76) [] m=some (.ptr (some ⟨m.next,0⟩),m')/\q5v m' m.next [] [m.next]/\Fr m m' []:=by
 refine⟨m.lay (.cells [.sl none 0 0 0 true] false),?_,⟨_,none,q0k _ _,.inl ⟨⟨0,true,rfl⟩,rfl,rfl⟩,by simp,rfl⟩,(Fr.refl m).lay _⟩;have e0:q00 (.agg [.sl none 0 0 0 true])=some (.cells [.sl none 0 0 0 true] false,fun b=>.ptr (some ⟨b,0⟩)):=by rfl
 simp only[b3T (H:=H50) rfl,F76,q0p,a0G,e0]
end
end
section
theorem huB:(TP).underlying 34=some (.slice 5):=by kernel_rfl
theorem hsB:szT TP 5=some 1:=by kernel_rfl
theorem a4T {P:Program} (t:TypeId) {x:Nat} (h:x<256):q0E P .and t (.int .u8 (x:Int)) (.int .u8 127)=some (.int .u8 ((x % 128:Nat):Int)):=by
 simp only[q0E,xAd,q6i];congr 2;have e:∀y:Fin 256,IntKind.wrap .u8 ((BitVec.ofInt IntKind.u8.bits (y.val:Int) &&& BitVec.ofInt IntKind.u8.bits 127).toNat:Int)=((y.val % 128:Nat):Int):=by decide +kernel
 exact e ⟨x,h⟩
theorem a8u {P:Program} (t:TypeId) {a b:Nat} {s:Nat} (ha:a*2 ^ s<18446744073709551616) (hb:b<2 ^ s) (hb2:b<18446744073709551616) :
  q0E P .or t (.int .u64 (b:Int)) (.int .u64 ((a*2 ^ s:Nat):Int))=some (.int .u64 ((a*2 ^ s+b:Nat):Int)):=by
 rw[<-a4U (P:=P) t ha hb hb2];simp only[q0E,xAd,q6i];congr 3;rw[BitVec.or_comm]
section
variable {m:Mem} {s:AV} {B:List UInt8}
theorem q3j (h:Sl m s (u8 B)):q2e TP 34 s=some (.int .i64 (B.length:Int)):=by
 obtain⟨a,sz,cap,ex,rfl⟩:=h.len;rw[z0M huB];simp[u8]
theorem a0t (h:Sl m s (u8 B)) {i:Nat} (hi:i<B.length):∃p,(∀k:IntKind,q0A TP 34 s (.int k (i:Int))=some p)/\ld1 m p=some (.int .u8 (B[i].toNat:Int)):=by
 obtain⟨a,sz,cap,ex,rfl,h1,h2,h3⟩:=h.elem (i:=i) (by simpa[u8]using hi);refine⟨_,fun k=>?_,h3.trans (by simp[u8,hi])⟩
 unfold q0A;simp only[huB,hsB];rw[xAb h1];exact h2
def b5A (at_:Nat) (r:Int×Int×Nat):AV:=.tup [.int .u64 r.1,.int .i64 r.2.1,.int .i64 (if r.2.1≠0 then 0 else ((at_+r.2.2:Nat):Int))]
theorem z5l (hs:Sl m s (u8 B)) (hB:B.length<4611686018427387904) {at_:Nat} (hat:at_<=B.length):∀(l:List UInt8) (i a:Nat),B.drop (at_+i)=l->i<=9->a<128 ^ i->
  D50.gor 983040 [s,.int .i64 (at_:Int),.int .u64 (a:Int),.int .i64 (i:Int)] m=some (b5A at_ (pnL i a l),m)
 |[],i,a,hl,hi,ha=>by
  have hle:B.length<=at_+i:=by
   have:=xFa List.length hl;simp at this;omega
  have ew:IntKind.wrap .i64 ((at_:Int)+(i:Int))=((at_+i:Nat):Int):=by rw[wrap_i64 (by omega) (by omega)];omega
  rw[z4r];simp only[z8g,p2,p1,q0b,q0y,ew,q3j hs,dt (show (B.length:Int)<=((at_+i:Nat):Int) by omega)];rfl
 |x::l,i,a,hl,hi,ha=>by
  have hlt:at_+i<B.length:=by
   have:=xFa List.length hl;simp at this;omega
  have hx:B[at_+i]=x:=by
   have:=xAk hlt;rw[hl]at this;exact(List.cons.inj this).1.symm
  have hl':B.drop (at_+(i+1))=l:=by
   have:=xAk hlt;rw[hl]at this;exact(List.cons.inj this).2.symm
  have ew:IntKind.wrap .i64 ((at_:Int)+(i:Int))=((at_+i:Nat):Int):=by rw[wrap_i64 (by omega) (by omega)];omega
  obtain⟨p,e1,e2⟩:=a0t hs hlt;rw[hx]at e2;have hx256:=toNat_lt x;rw[z4r];simp only[z8g,p2,p1,q0b,q0y,ew,q3j hs,df (show ¬(B.length:Int)<=((at_+i:Nat):Int) by omega),j5P (H:=H50),j2T,q1,ifV,q0y,e1,e2];have key:¬(i=9/\1<x.toNat)->D50.gor 983042 [s,.int .i64 (at_:Int),.int .u64 (a:Int),.int .i64 (i:Int),.int .u8 (x.toNat:Int)] m=some (b5A at_ (pnL i a (x::l)),m):=by
   intro hn;have hp:128 ^ i=2 ^ (7*i):=by rw[show (128:Nat)=2 ^ 7 from rfl,<-Nat.pow_mul]
   have hb:x.toNat % 128*2 ^ (7*i)<18446744073709551616:=by
    by_cases h9:i=9
    ·have:x.toNat % 128<=1:=by
      have:¬1<x.toNat:=fun h=>hn ⟨h9,h⟩
      omega
     subst h9;have:=xAo (2 ^ (7*9)) this;have e:(1:Nat)*2 ^ (7*9)=9223372036854775808:=rfl;rw[e]at this;omega
    ·have h1:2 ^ (7*i)<=2 ^ 56:=xCz (by omega) (by omega);have h2:x.toNat % 128*2 ^ (7*i)<=127*2 ^ 56:=Nat.mul_le_mul (by omega) h1;have e:127*2 ^ 56<18446744073709551616:=by decide
     omega
   rw[hp]at ha;have ha2:a<18446744073709551616:=by
    have h1:2 ^ (7*i)<=2 ^ 63:=xCz (by omega) (by omega);have e:(2:Nat) ^ 63=9223372036854775808:=rfl;omega
   have w1:IntKind.wrap .u64 ((x.toNat % 128:Nat):Int)=((x.toNat % 128:Nat):Int):=by rw[q0i];omega
   have w2:IntKind.wrap .i64 (7*(i:Int))=((7*i:Nat):Int):=by rw[wrap_i64 (by omega) (by omega)];omega
   have w3:IntKind.wrap .u64 ((7*i:Nat):Int)=((7*i:Nat):Int):=by rw[q0i];omega
   have w4:IntKind.wrap .i64 ((i:Int)+1)=((i+1:Nat):Int):=by rw[wrap_i64 (by omega) (by omega)];omega
   have w5:IntKind.wrap .i64 (((at_+i:Nat):Int)+1)=((at_+(i+1):Nat):Int):=by rw[wrap_i64 (by omega) (by omega)];omega
   have sh:∀t,q0E TP .shl t (.int .u64 ((x.toNat % 128:Nat):Int)) (.int .u64 ((7*i:Nat):Int))=some (.int .u64 ((x.toNat % 128*2 ^ (7*i):Nat):Int)):=fun t=>by
    rw[q77 _ (7*i) (by omega)];have e:((x.toNat % 128:Nat):Int)*2 ^ (7*i)=((x.toNat % 128*2 ^ (7*i):Nat):Int):=by simp
    rw[e,xEn (by omega) (by omega)]
   have ho:∀t,q0E TP .or t (.int .u64 (a:Int)) (.int .u64 ((x.toNat % 128*2 ^ (7*i):Nat):Int))=some (.int .u64 ((x.toNat % 128*2 ^ (7*i)+a:Nat):Int)):=fun t=>a8u t hb ha ha2
   have ea:(a:Int)+((x.toNat % 128:Nat):Int)*128 ^ i=((x.toNat % 128*2 ^ (7*i)+a:Nat):Int):=by
    rw[<-hp];simp[Int.add_comm]
   by_cases hc:128<=x.toNat
   ·have h9:i≠9:=fun h=>hn ⟨h,by omega⟩
    have ih:=z5l hs hB hat l (i+1) (x.toNat % 128*2 ^ (7*i)+a) hl' (by omega) (by
     rw[xFe,hp];have:x.toNat % 128*2 ^ (7*i)<=127*2 ^ (7*i):=xAo _ (by omega);omega)
    simp only[z4s (H:=H50),z8h,p2,p1,q0b,q0y,a4T _ hx256,w1,w2,w3,sh,ho,dt (show (128:Int)<=(x.toNat:Int) by omega),j5Q (H:=H50),j2U,q0y,w4,ih];rw[pnL,xAa hn,xAb hc,ea]
   ·simp only[z4s (H:=H50),z8h,p2,p1,q0b,q0y,a4T _ hx256,w1,w2,w3,sh,ho,df (show ¬(128:Int)<=(x.toNat:Int) by omega)];rw[pnL,xAa hn,xAa hc,ea];by_cases hz:x.toNat=0
    ·simp only[z4t (H:=H50),z8i,p2,q0b,ifV,q0y,dt (show (x.toNat:Int)=0 by omega)];by_cases hi0:0<i
     ·simp only[dt (show (0:Int)<(i:Int) by omega)];rw[xAb ⟨hz,hi0⟩];rfl
     ·simp only[df (show ¬(0:Int)<(i:Int) by omega),z4u (H:=H50),z8j,p2,q0y,ew,w5];rw[xAa (fun h=>hi0 h.2)];rfl
    ·simp only[z4t (H:=H50),z8i,p2,q0b,ifV,q0y,df (show ¬(x.toNat:Int)=0 by omega),z4u (H:=H50),z8j,q0y,ew,w5];rw[xAa (fun h=>hz h.1)];rfl
  by_cases h9:i=9
  ·by_cases h1:1<x.toNat
   ·simp only[dt (show (i:Int)=9 by omega),dt (show (1:Int)<(x.toNat:Int) by omega)];rw[pnL,xAb ⟨h9,h1⟩];rfl
   ·simp only[dt (show (i:Int)=9 by omega),df (show ¬(1:Int)<(x.toNat:Int) by omega)];exact key (fun h=>h1 h.2)
  ·simp only[df (show ¬(i:Int)=9 by omega)];exact key (fun h=>h9 h.1)
theorem j9w (hs:Sl m s (u8 B)) (hB:B.length<4611686018427387904) {at_:Nat} (hat:at_<=B.length) :
  run E50 (.fn 240) [s,.int .i64 (at_:Int)] m=some (b5A at_ (pnL 0 0 (B.drop at_)),m):=by
 have h:=z5l hs hB hat (B.drop at_) 0 0 rfl (by omega) (by simp);simp only[xAz]at h;simp only[a9D (H:=H50) rfl,b6F,q0y,h]
end
end
section
def OSl (m:Mem) (s:AV) (l:List AV) (rb:Option Nat):Prop:=Sl m s l/\(∀c,rb=some c->c<m.next)/\∀a sz n c ex,s=.sl (some a) sz n c ex->rb=some a.b
theorem OSl.sl {m:Mem} {s:AV} {l:List AV} {rb:Option Nat} (h:OSl m s l rb):Sl m s l:=h.1
theorem OSl.frame {m m':Mem} {s:AV} {l:List AV} {rb:Option Nat} {S:List Nat} (h:OSl m s l rb) (hf:Fr m m' S) (hd:∀c,rb=some c->c∉S):OSl m' s l rb:=
 ⟨h.1.frame hf fun a sz n c ex e=>hd _ (h.2.2 a sz n c ex e),fun c hc=>xCc (h.2.1 c hc) hf.next,h.2.2⟩
theorem Row.o {m:Mem} {s:AV} {l:List AV} {rb:Option Nat} (h:Row m s l rb):OSl m s l rb:=
 ⟨h.sl,fun c hc=>by subst hc;exact h.lt,fun a sz n c ex e=>by
  rcases h with ⟨⟨sz,ex,rfl⟩,_,_⟩|⟨b,sp,ex,rfl,rfl,_⟩
  ·cases e
  ·cases e;rfl⟩
theorem Sl.o {m:Mem} {s:AV} {l:List AV} (h:Sl m s l):∃rb,OSl m s l rb:=by
 have h0:=h;rcases h with ⟨sz,ex,rfl,_⟩|⟨a,sz,cap,ex,cs,ro,rfl,_,_,h2,_⟩
 ·exact⟨none,h0,by simp,by simp⟩
 ·exact⟨some a.b,h0,fun c hc=>by cases hc;exact Mem.q0u h2,fun a sz n c ex e=>by cases e;rfl⟩
def q2s (m:Mem) (b:Nat) (B:List UInt8) (st:RS) (rb:Option Nat):Prop:=∃s,m.get b=some (.cells [s,.int .i64 (st.at_:Int),.int .i64 st.bad] false)/\OSl m s (u8 B) rb/\rb≠some b/\st.at_<=B.length/\B.length<4611686018427387904
section
variable {m m':Mem} {b:Nat} {B:List UInt8} {st st':RS} {rb:Option Nat} {S:List Nat}
theorem q2s.frame (h:q2s m b B st rb) (hf:Fr m m' S) (hb:b∉S) (hr:∀c,rb=some c->c∉S):q2s m' b B st rb:=by
 obtain⟨s,h1,h2,h3⟩:=h;exact⟨s,hf.get h1 hb,h2.frame hf hr,h3⟩
theorem q2s.q0m (h:q2s m b B st rb) (hf:Fr m m' []):q2s m' b B st rb:=h.frame hf (by simp) (by simp)
theorem z5C {s:AV} {x y:AV} (h1:m.get b=some (.cells [s,x,y] false)) (h2:OSl m s (u8 B) rb) (h3:rb≠some b) (h4:st'.at_<=B.length) (h5:B.length<4611686018427387904) :
  q2s (m.put b (some (.cells [s,.int .i64 (st'.at_:Int),.int .i64 st'.bad] false))) b B st' rb/\Fr m (m.put b (some (.cells [s,.int .i64 (st'.at_:Int),.int .i64 st'.bad] false))) [b]:=by
 have fp:Fr m (m.put b (some (.cells [s,.int .i64 (st'.at_:Int),.int .i64 st'.bad] false))) [b]:=Fr.put _ _ _;exact⟨⟨s,q0x h1,h2.frame fp (fun c hc=>by simp;rintro rfl;exact h3 hc),h3,h4,h5⟩,fp⟩
theorem z9Z {s x y:AV} (h:m.get b=some (.cells [s,x,y] false)) (k:IntKind) (n:Int):stV m (.ptr (some ⟨b,1⟩)) (.int k n) 1=some (m.put b (some (.cells [s,.int k n,y] false))):=by
 rw[q1B (v:=.int k n) (vs:=[.int k n]) (o:=1) (n:=1) h (q3k rfl) rfl (by simp)];rfl
theorem b40 {s x y:AV} (h:m.get b=some (.cells [s,x,y] false)) (k:IntKind) (n:Int):stV m (.ptr (some ⟨b,2⟩)) (.int k n) 1=some (m.put b (some (.cells [s,x,.int k n] false))):=by
 rw[q1B (v:=.int k n) (vs:=[.int k n]) (o:=2) (n:=1) h (q3k rfl) rfl (by simp)];rfl
theorem q6A {c:Int} (h:q2s m b B st rb) (h0:st.bad=0) :
  ∃m',run E50 (.fn 238) [.ptr (some ⟨b,0⟩),.int .i64 c] m=some (.undef,m')/\q2s m' b B {st with bad:=c} rb/\Fr m m' [b]:=by
 obtain⟨s,h1,h2,h3,h4,h5⟩:=h;refine⟨_,?_,z5C (st':={st with bad:=c}) h1 h2 h3 h4 h5⟩
 simp only[a9B (H:=H50) rfl,b6D,p1,q1,p2,nnA,q0b,q0f,q0e h1,b40 h1,dt h0]
theorem b4W {l:List UInt8} {v:Int} {u:Nat} (h:pnL 0 0 l=(v,0,u)):u<=l.length:=by
 obtain⟨_,_,h1,h2⟩:=z2n h;have:=xFa List.length h2;rw[xlt0]at this;omega
theorem q2T {most:Int} (h:q2s m b B st rb) :
  ∃m',run E50 (.fn 168) [.ptr (some ⟨b,0⟩),.int .u64 most] m=some (.int .u64 (q1a B most st).1,m')/\q2s m' b B (q1a B most st).2 rb/\Fr m m' [b]:=by
 have h0:=h;obtain⟨s,h1,h2,h3,h4,h5⟩:=h;unfold q1a;by_cases hb:st.bad=0
 ·rw[xAa (by simp[hb])];have en:=j9w h2.sl h5 h4;obtain⟨⟨v,e,u⟩,hr⟩:∃r,r=pnL 0 0 (B.drop st.at_):=⟨_,rfl⟩;rw[<-hr]at en⊢;simp only[b5A]at en;by_cases he:e=0
  ·subst he;have hu:=b4W hr.symm;rw[xld0]at hu;rw[xAa (by simp)];simp only[ne_eq,xAq,xAh]at en;by_cases hm:most<v
   ·rw[xAb hm];obtain⟨m',e1,r1⟩:=q6A (c:=12) h0 hb;refine⟨m',?_,r1⟩;simp only[z1C (H:=H50) rfl,b1N,p1,q1,p2,nnA,q0b,q0f,q0e h1,dt hb,xbt,q88 (H:=H50),z2U,q0q,ifV,q0f,en,dt hm,q89 (H:=H50),z2V,q0f,e1,xAn,show decide ((12:Int)=0)=false from rfl,xbf]
   ·rw[xAa hm];refine⟨_,?_,z5C (st':={st with at_:=st.at_+u}) h1 h2 h3 (by show st.at_+u<=B.length;omega) h5⟩
    simp only[z1C (H:=H50) rfl,b1N,p1,q1,p2,nnA,q0b,q0f,q0e h1,dt hb,xbt,q88 (H:=H50),z2U,q0q,ifV,q0f,en,df hm,q89 (H:=H50),z2V,q0f,j5t (H:=H50),j2x,q0f,z9Z h1,xAn]
  ·rw[xAb he];simp only[ne_eq,he,xCu,xAd]at en;obtain⟨m',e1,r1⟩:=q6A (c:=e) h0 hb;refine⟨m',?_,r1⟩;simp only[z1C (H:=H50) rfl,b1N,p1,q1,p2,nnA,q0b,q0f,q0e h1,dt hb,xbt,q88 (H:=H50),z2U,q0q,ifV,q0f,en,df he,xbf,q89 (H:=H50),z2V,q0f,e1]
 ·rw[xAb hb];refine⟨m,?_,h0,Fr.refl' m _⟩;simp only[z1C (H:=H50) rfl,b1N,p1,q1,p2,nnA,q0b,q0f,q0e h1,df hb,xbf]
theorem q8r {most:Int} (h:q2s m b B st rb) :
  ∃m',run E50 (.fn 165) [.ptr (some ⟨b,0⟩),.int .u8 most] m=some (.int .u8 (q1L B most st).1,m')/\q2s m' b B (q1L B most st).2 rb/\Fr m m' [b]:=by
 have h0:=h;obtain⟨s,h1,h2,h3,h4,h5⟩:=h;unfold q1L;by_cases hb:st.bad=0
 ·rw[xAa (by simp[hb])];by_cases hl:st.at_<B.length
  ·obtain⟨p,e1,e2⟩:=a0t h2.sl hl;rw[xgq hl];simp only;by_cases hm:most<(B[st.at_].toNat:Int)
   ·rw[xAb hm];obtain⟨m',e3,r1⟩:=q6A (c:=12) h0 hb;refine⟨m',?_,r1⟩;simp only[z1B (H:=H50) rfl,b1M,p1,q1,p2,nnA,q0b,q0f,q0e h1,dt hb,xbt,q3j h2.sl,df (show ¬(B.length:Int)<=(st.at_:Int) by omega),e1,e2,dt hm,e3]
   ·rw[xAa hm];obtain⟨r1,r2⟩:=z5C (st':={st with at_:=st.at_+1}) h1 h2 h3 (by show st.at_+1<=B.length;omega) h5
    refine⟨_,?_,r1,r2⟩;obtain⟨p',e1',e2'⟩:=a0t (h2.frame r2 (fun c hc=>by simp;rintro rfl;exact h3 hc)).sl hl
    have g1:=q0x (w:=some (.cells [s,.int .i64 ((st.at_+1:Nat):Int),.int .i64 st.bad] false)) h1;dsimp only at e2';obtain rfl:p'=p:=xsj ((e1' .i64).symm.trans (e1 .i64));have w1:IntKind.wrap .i64 ((st.at_:Int)+1)=((st.at_+1:Nat):Int):=by rw[wrap_i64 (by omega) (by omega)];omega
    have w2:IntKind.wrap .i64 (((st.at_+1:Nat):Int)-1)=(st.at_:Int):=by rw[wrap_i64 (by omega) (by omega)];omega
    simp only[z1B (H:=H50) rfl,b1M,p1,q1,p2,nnA,q0b,q0f,q0e h1,dt hb,xbt,q3j h2.sl,df (show ¬(B.length:Int)<=(st.at_:Int) by omega),e1,e2,df hm,j5s (H:=H50),j2w,q0f,w1,z9Z h1,q0e g1,w2,e2']
  ·rw[xAu (by omega)];obtain⟨m',e1,r1⟩:=q6A (c:=10) h0 hb;refine⟨m',?_,r1⟩;simp only[z1B (H:=H50) rfl,b1M,p1,q1,p2,nnA,q0b,q0f,q0e h1,dt hb,xbt,q3j h2.sl,dt (show (B.length:Int)<=(st.at_:Int) by omega),e1]
 ·rw[xAb hb];refine⟨m,?_,h0,Fr.refl' m _⟩;simp only[z1B (H:=H50) rfl,b1M,p1,q1,p2,nnA,q0b,q0f,q0e h1,df hb,xbf]
theorem z2t (h:q2s m b B st rb):run E50 (.fn 104) [.ptr (some ⟨b,0⟩)] m=some (.int .i64 (q7A B st),m):=by
 obtain⟨s,h1,h2,h3,h4,h5⟩:=h;unfold q7A;by_cases hb:st.bad=0
 ·by_cases hl:st.at_<B.length
  ·rw[xAb ⟨hb,hl⟩];simp only[z6R (H:=H50) rfl,b2G,p1,q1,p2,nnA,q0b,ifV,q0f,q0e h1,dt hb,q3j h2.sl,dt (show (st.at_:Int)<(B.length:Int) by omega)]
  ·rw[xAa (fun h=>hl h.2)]
   simp only[z6R (H:=H50) rfl,b2G,p1,q1,p2,nnA,q0b,ifV,q0f,q0e h1,dt hb,q3j h2.sl,df (show ¬(st.at_:Int)<(B.length:Int) by omega),z3T (H:=H50),z7J,q0f]
 ·rw[xAa (fun h=>hb h.1)]
  simp only[z6R (H:=H50) rfl,b2G,p1,q1,p2,nnA,q0b,ifV,q0f,q0e h1,df hb,z3T (H:=H50),z7J,q0f]
theorem j98 {x:AV} (hx:Sl m x (u8 B)) (hl:B.length<4611686018427387904) (hl2:B.length<=q0j) :
  ∃b m' rb,run E50 (.fn 101) [x] m=some (.ptr (some ⟨b,0⟩),m')/\q2s m' b B ⟨0,0⟩ rb/\Fr m m' []/\m.next<=b/\∀c,rb=some c->m.next<=c:=by
 have f1:Fr m (m.lay (.cells [] false)) []:=(Fr.refl m).lay _;have hr:Row (m.lay (.cells [] false)) (.sl (some ⟨m.next,0⟩) 1 0 0 true) [] (some m.next):=.inr ⟨m.next,[],true,rfl,rfl,q0k _ _⟩
 obtain⟨s',m2,rb',a1,a2,a3,a4⟩:=q4h (w:=1) hr (hx.frame f1 (by simp)) (q9S B) (by simpa[u8]using hl2);have f2:Fr m m2 []:=f1.step a3 (fun c hc=>by simp at hc;exact .inr (by omega))
 have f3:Fr m2 (m2.lay (.cells [s',.int .i64 0,.int .i64 0] false)) []:=(Fr.refl m2).lay _;have hlt:∀c,rb'=some c->c<m2.next:=fun c hc=>by subst hc;exact a2.lt
 obtain⟨a,sz,cap,ex,rfl⟩:=a2.sl.len;refine⟨m2.next,_,rb',?_,⟨_,q0k m2 _,(Row.o a2).frame f3 (by simp),fun hc=>xDp _ (hlt _ hc),xBx _,hl⟩,f2.step0 f3,f2.next,fun c hc=>?_⟩
 ·have eb:bsA 1 0 [.int .u8 0] []=some (.cells [] false,fun b=>.sl (some ⟨b,0⟩) 1 0 0 true):=by rfl
  simp only[a8Y (H:=H50) rfl,b58,apE,q0p,AV.cells,Nat.reduceAdd,Nat.reduceLeDiff,a0G,eb,a1];rfl
 ·rcases a4 with rfl|rfl
  ·cases hc;exact xnr _
  ·cases hc;exact f1.next
end
end
section
theorem and1 {P:Program} (t:TypeId) {x:Int} (h:0<=x) (h2:x<18446744073709551616):q0E P .and t (.int .u64 x) (.int .u64 1)=some (.int .u64 (x % 2)):=by
 simp only[q0E,xAd,q6i];congr 2;have e:(BitVec.ofInt IntKind.u64.bits x &&& BitVec.ofInt IntKind.u64.bits 1).toNat=x.toNat % 2:=by
  show (BitVec.ofInt 64 x &&& BitVec.ofInt 64 1).toNat=_;rw[BitVec.toNat_and,q2o h h2,q2o (by omega) (by omega)];exact Nat.and_two_pow_sub_one_eq_mod x.toNat 1
 rw[e,q0i];omega
theorem b9A {P:Program} (t:TypeId) {x y:Int} (h:0<=x) (h2:x<9223372036854775808) (hy:y=0\/y=1):q0E P .xor t (.int .i64 x) (.int .i64 (-y))=some (.int .i64 (if y=1 then -x-1 else x)):=by
 obtain⟨n,rfl⟩:∃n:Nat,x=n:=⟨x.toNat,by omega⟩;have e:∀z,q0E P .xor t (.int .i64 (n:Int)) (.int .i64 z)=some (.int .i64 (IntKind.wrap .i64 (((BitVec.ofInt 64 (n:Int) ^^^ BitVec.ofInt 64 z).toNat:Nat):Int))):=fun z=>by
  simp only[q0E,xAd,q6i];rfl
 rcases hy with rfl|rfl
 ·rw[e,show BitVec.ofInt 64 (-0)=0#64 from by decide,BitVec.xor_zero,q2o (by omega) (by omega),wrap_i64 (by omega) (by omega)];simp
 ·rw[e,show BitVec.ofInt 64 (-1)=BitVec.allOnes 64 from by decide,BitVec.xor_allOnes,BitVec.toNat_not,q2o (by omega) (by omega)];congr 2;rw[xAb rfl];have:((2 ^ 64-1-(n:Int).toNat:Nat):Int)=18446744073709551615-n:=by
   have:(2:Nat) ^ 64=18446744073709551616:=rfl;omega
  rw[this];rw[q2W,xAb (by omega)];omega
section
variable {m m':Mem} {b:Nat} {B:List UInt8} {st st':RS} {rb:Option Nat} {S:List Nat}
theorem q1A {most:Int} (h0:0<=most) (h1:most<18446744073709551616):0<=(q1a B most st).1/\(q1a B most st).1<=most:=by
 unfold q1a;by_cases hb:st.bad=0
 ·rw[xAa (by simp[hb])];obtain⟨⟨v,e,u⟩,hr⟩:∃r,r=pnL 0 0 (B.drop st.at_):=⟨_,rfl⟩;rw[<-hr];by_cases he:e=0
  ·subst he;rw[xAa (by simp)];by_cases hm:most<v
   ·rw[xAb hm];exact⟨Int.le_refl _,h0⟩
   ·rw[xAa hm];have h:=z2n hr.symm;exact⟨h.1,by show v<=most;omega⟩
  ·rw[xAb he];exact⟨Int.le_refl _,h0⟩
 ·rw[xAb hb];exact⟨Int.le_refl _,h0⟩
theorem j92 (h:q2s m b B st rb) :
  ∃m',run E50 (.fn 239) [.ptr (some ⟨b,0⟩)] m=some (.int .i64 (z0e B st).1,m')/\q2s m' b B (z0e B st).2 rb/\Fr m m' [b]:=by
 obtain⟨m',e,r⟩:=q2T (most:=18446744073709551615) h;obtain⟨g0,g1⟩:=q1A (B:=B) (st:=st) (most:=18446744073709551615) (by omega) (by omega);refine⟨m',?_,r⟩;unfold z0e;generalize (q1a B 18446744073709551615 st).1=v at *;have s1:∀t,q0E TP .shr t (.int .u64 v) (.int .u64 1)=some (.int .u64 (v / 2)):=fun t=>q78 _ g0 (by omega) (by rfl)
 have w1:IntKind.wrap .i64 (v / 2)=v / 2:=by rw[wrap_i64 (by omega) (by omega)]
 have w2:IntKind.wrap .i64 (v % 2)=v % 2:=by rw[wrap_i64 (by omega) (by omega)]
 have w3:IntKind.wrap .i64 (-(v % 2))=-(v % 2):=by rw[wrap_i64 (by omega) (by omega)]
 have un:unA .neg (.int .i64 (v % 2))=some (.int .i64 (IntKind.wrap .i64 (-(v % 2)))):=by simp[unA]
 have z:(if v % 2=1 then -(v / 2)-1 else v / 2)=zag v:=rfl
 simp only[a9C (H:=H50) rfl,b6E,p2,p1,q0y,e,s1,w1,and1 _ g0 (show v<18446744073709551616 by omega),w2,un,w3,b9A _ (show 0<=v / 2 by omega) (show v / 2<9223372036854775808 by omega) (show v % 2=0\/v % 2=1 by omega),z]
end
end
section
section
variable {m m':Mem} {b:Nat} {B:List UInt8} {st st':RS} {rb:Option Nat} {S:List Nat} {s:AV}
theorem b1q (h:Sl m s (u8 B)) {i j:Nat} (hij:i<=j) (hj:j<=B.length) :
  ∃s',q0n TP 34 s (some (.int .i64 (i:Int))) (some (.int .i64 (j:Int)))=some s'/\Sl m s' (u8 ((B.drop i).take (j-i))):=by
 have hu:(u8 B).length=B.length:=by simp[u8]
 rcases h with ⟨sz,ex,rfl,h0⟩|⟨a,sz,cap,ex,cs,ro,rfl,hs,h0,h1,h2,h3⟩
 ·have hB:B=[]:=by simpa[u8]using h0
  subst hB;obtain rfl:j=0:=by simpa using hj
  obtain rfl:i=0:=by omega
  refine⟨.sl none 1 0 0 ex,?_,.inl ⟨_,_,rfl,by simp[u8]⟩⟩;simp[q0n,hsB,hiA,loA]
 ·rw[hu]at h0 h2 h3;refine⟨.sl (some ⟨a.b,a.o+i*1⟩) 1 (j-i) (cap-i) ex,?_,.inr ⟨⟨a.b,a.o+i*1⟩,1,cap-i,ex,cs,ro,?_,.inl rfl,?_,h1,?_,?_⟩⟩
  ·unfold q0n;simp only[huB,hsB,hiA,loA];rw[xAb (by omega),xAb (by omega)];simp only[xCg];rw[xAb (by omega),xAb (by omega)];simp only[xAb (show 1=sz\/ex=true from hs)]
  ·simp[u8];omega
  ·simp[u8];omega
  ·simp[u8];omega
  ·rw[show (u8 ((B.drop i).take (j-i))).length=j-i by simp[u8];omega];rw[xFf,<-xEx];have e:u8 ((B.drop i).take (j-i))=((u8 B).drop i).take (j-i):=by simp[u8,List.map_drop,List.map_take]
   rw[e,<-h3,List.drop_take,xEw];congr 1;omega
theorem z98 {most:Int} (g0:0<=most) (g1:most<9223372036854775808) (h:q2s m b B st rb) (hmx:B.length<=q0j) :
  ∃s m' rs,run E50 (.fn 237) [.ptr (some ⟨b,0⟩),.int .i64 most] m=some (s,m')/\Row m' s (u8 (q1g B most st).1) rs/\q2s m' b B (q1g B most st).2 rb/\Fr m m' [b]/\∀c,rs=some c->m.next<=c:=by
 obtain⟨m1,e1,r1,f1⟩:=q2T (most:=most) h;obtain⟨n0,n1⟩:=q1A (B:=B) (st:=st) g0 (by omega:most<18446744073709551616);have wm:(if most<0 then (0:Int) else most)=most:=xAa (by omega)
 have wu:IntKind.wrap .u64 most=most:=by rw[q0i];omega
 unfold q1g;obtain⟨⟨v,st1⟩,hr⟩:∃r,r=q1a B most st:=⟨_,rfl⟩;rw[<-hr]at e1 r1 n0 n1⊢;simp only at e1 r1 n0 n1⊢;obtain⟨s,h1,h2,h3,h4,h5⟩:=h;have r1':=r1;obtain⟨s1,k1,k2,k3,k4,k5⟩:=r1;by_cases hb:st1.bad=0
 ·rw[xAa (by simp[hb])];have wd:IntKind.wrap .i64 ((B.length:Int)-(st1.at_:Int))=((B.length-st1.at_:Nat):Int):=by rw[wrap_i64 (by omega) (by omega)];omega
  have wd2:IntKind.wrap .u64 ((B.length-st1.at_:Nat):Int)=((B.length-st1.at_:Nat):Int):=by rw[q0i];omega
  by_cases hl:((B.length-st1.at_:Nat):Int)<v
  ·rw[xAb hl];obtain⟨p1,p2⟩:=z5C (st':=⟨st.at_,st1.bad⟩) k1 k2 k3 h4 k5;obtain⟨m2,e2,q1,q2⟩:=q6A (c:=10) p1 hb;refine⟨.sl none 0 0 0 true,m2,none,?_,.inl ⟨⟨_,_,rfl⟩,by simp[u8],rfl⟩,q1,(f1.step p2 (fun c hc=>.inl hc)).step q2 (fun c hc=>.inl hc),by simp⟩
   simp only[z6W (H:=H50) rfl,b2L,nnA,q0b,q0f,q0e h1,q0e k1,b0K,wm,wu,e1,dt hb,xbt,z4q (H:=H50),z8f,q0f,q3j k2.sl,wd,wd2,dt hl,z9Z k1,e2]
  ·rw[xAa hl];have hj:st1.at_+v.toNat<=B.length:=by omega
   obtain⟨p1,p2⟩:=z5C (st':=⟨st1.at_+v.toNat,st1.bad⟩) k1 k2 k3 hj k5;have hq0:=q0x (w:=some (.cells [s1,.int .i64 ((st1.at_+v.toNat:Nat):Int),.int .i64 st1.bad] false)) k1;have kr:=k2.frame p2 (fun c hc=>by simp;rintro rfl;exact k3 hc)
   dsimp only at p1 p2 kr;obtain⟨M1,hM1⟩:∃M1,M1=m1.put b (some (.cells [s1,.int .i64 ((st1.at_+v.toNat:Nat):Int),.int .i64 st1.bad] false)):=⟨_,rfl⟩;rw[<-hM1]at p1 p2 kr hq0;have f2:Fr M1 (M1.lay (.cells [] false)) []:=(Fr.refl M1).lay _;have hq:=f2.get hq0 (by simp);obtain⟨s',c1,c2⟩:=b1q (kr.frame f2 (by simp)).sl (i:=st1.at_) (j:=st1.at_+v.toNat) (by omega) hj;have hrw:Row (M1.lay (.cells [] false)) (.sl (some ⟨M1.next,0⟩) 1 0 0 true) [] (some M1.next):=.inr ⟨M1.next,[],true,rfl,rfl,q0k _ _⟩
   obtain⟨s2,m2,rs,a1,a2,a3,a4⟩:=q4h (w:=1) hrw c2 (q9S _) (by simp[u8];omega);have hM1n:=p2.next
   have hfm:=f1.next
   have hbl:=Mem.q0u hq0;have f3:Fr M1 m2 []:=f2.step a3 (fun c hc=>by simp at hc;exact .inr (by omega))
   refine⟨s2,m2,rs,?_,?_,p1.q0m f3,(f1.step p2 (fun c hc=>.inl hc)).step0 f3,fun c hc=>?_⟩
   ·have wv:IntKind.wrap .i64 v=v:=by rw[wrap_i64 (by omega) (by omega)]
    have wa:IntKind.wrap .i64 ((st1.at_:Int)+v)=((st1.at_+v.toNat:Nat):Int):=by rw[wrap_i64 (by omega) (by omega)];omega
    have ws:IntKind.wrap .i64 (((st1.at_+v.toNat:Nat):Int)-v)=(st1.at_:Int):=by rw[wrap_i64 (by omega) (by omega)];omega
    have eb:bsA 1 0 [.int .u8 0] []=some (.cells [] false,fun b=>.sl (some ⟨b,0⟩) 1 0 0 true):=by rfl
    have est:=z9Z k1 .i64 ((st1.at_+v.toNat:Nat):Int);rw[<-hM1]at est;simp only[z6W (H:=H50) rfl,b2L,q1,nnA,q0b,q0f,q0e h1,q0e k1,b0K,wm,wu,e1,dt hb,xbt,z4q (H:=H50),z8f,q0f,q3j k2.sl,wd,wd2,df hl,j5O (H:=H50),j2S,p3,apE,q0f,wv,wa,est,eb,q0e hq,ws,c1,a1]
   ·rw[xAm,show st1.at_+v.toNat-st1.at_=v.toNat by omega]at a2;exact a2
   ·rcases a4 with rfl|rfl
    ·cases hc;omega
    ·cases hc;simp;omega
 ·rw[xAb hb];refine⟨.sl none 0 0 0 true,m1,none,?_,.inl ⟨⟨_,_,rfl⟩,by simp[u8],rfl⟩,r1',f1,by simp⟩;simp only[z6W (H:=H50) rfl,b2L,p1,q1,p2,nnA,q0b,q0f,q0e h1,q0e k1,b0K,wm,wu,e1,df hb,xbf]
end
end
section
section
variable {m m':Mem} {b q:Nat} {B:List UInt8} {st st':RS} {rb:Option Nat} {S:List Nat} {s:AV}
theorem q2s.keep (h:q2s m b B st rb) (w:Option Blk) (hq:b≠q) (hr:rb≠some q):q2s (m.put q w) b B st rb:=
 h.frame (Fr.put m q w) (by simpa using hq) (fun c hc=>by simp;rintro rfl;exact hr hc)
theorem q2S {most:Int}:0<=(q1L B most st).1/\(q1L B most st).1<256:=by
 unfold q1L;by_cases hb:st.bad=0
 ·rw[xAa (by simp[hb])];cases hx:B[st.at_]? with
  |none=>simp
  |some x=>
   simp only;have:=toNat_lt x;split
   ·simp
   ·exact⟨by omega,by show (x.toNat:Int)<256;omega⟩
 ·rw[xAb hb];simp
theorem q2s.blt (h:q2s m b B st rb):b<m.next:=by obtain ⟨s,h1,_⟩:=h;exact Mem.q0u h1
theorem q2s.rlt (h:q2s m b B st rb):∀c,rb=some c->c<m.next:=by
 obtain⟨s,_,h2,_⟩:=h;exact h2.2.1
theorem st3 {x y z:AV} {cs:List AV} {o:Nat} {v:AV} (h:m.get q=some (.cells [x,y,z] false)) (hv:v.one=true) (ho:o<3) (hc:[x,y,z].take o++[v]++[x,y,z].drop (o+1)=cs) :
  stV m (.ptr (some ⟨q,o⟩)) v 1=some (m.put q (some (.cells cs false))):=by
 rw[q1B (v:=v) (vs:=[v]) (o:=o) (n:=1) h (q3k hv) rfl (by simp;omega),hc]
theorem j1m (h:q2s m b B st rb) :
  ∃m',run E50 (.fn 253) [.ptr (some ⟨b,0⟩)] m=some (.agg [.int .i64 (q3e B (q1L B 18 st).2).1.hi,.int .u64 (q3e B (q1L B 18 st).2).1.lo,.int .i64 (q1L B 18 st).1],m')/\q2s m' b B (q3e B (q1L B 18 st).2).2 rb/\Fr m m' [b]:=by
 have z3:∀M:Mem,Fr M (M.lay (.cells [.int .i64 0,.int .u64 0,.int .i64 0] false)) []:=fun M=>(Fr.refl M).lay _
 obtain⟨m1,hm1⟩:∃m1,m1=m.lay (.cells [.int .i64 0,.int .u64 0,.int .i64 0] false):=⟨_,rfl⟩;obtain⟨m2,hm2⟩:∃m2,m2=m1.lay (.cells [.int .i64 0,.int .u64 0,.int .i64 0] false):=⟨_,rfl⟩;have f1:Fr m m1 []:=hm1▸z3 m;have f2:Fr m1 m2 []:=hm2▸z3 m1;have n1:m1.next=m.next+1:=by rw[hm1];simp
 have hb:=h.blt;have hr:=h.rlt;have gp:m2.get m.next=some (.cells [.int .i64 0,.int .u64 0,.int .i64 0] false):=f2.get (by rw[hm1];exact q0k _ _) (by simp)
 have gq:m2.get m1.next=some (.cells [.int .i64 0,.int .u64 0,.int .i64 0] false):=by rw[hm2];exact q0k _ _
 have qb:b≠m1.next:=by omega
 have pb:b≠m.next:=by omega
 have qr:rb≠some m1.next:=fun hc=>by have:=hr _ hc;omega
 have pr:rb≠some m.next:=fun hc=>by have:=hr _ hc;omega
 have nb:∀{x:Nat},b≠x->x∉[b]:=fun h=>by simp;exact fun e=>h e.symm
 obtain⟨m3,e3,r3,f3⟩:=q8r (most:=18) ((h.q0m f1).q0m f2);have hkr:=q2S (B:=B) (st:=st) (most:=18);generalize q1L B 18 st=k at *;have wk:IntKind.wrap .i64 k.1=k.1:=by rw[wrap_i64 (by omega) (by omega)]
 have q3:=f3.get gq (nb qb);have p3:=f3.get gp (nb pb);have s3:=st3 (cs:=[.int .i64 0,.int .u64 0,.int .i64 k.1]) q3 (v:=.int .i64 k.1) (o:=2) rfl (by omega) rfl;have q3':=q0x (w:=some (.cells [.int .i64 0,.int .u64 0,.int .i64 k.1] false)) q3;have p3':=(Fr.put m3 m1.next (some (.cells [.int .i64 0,.int .u64 0,.int .i64 k.1] false))).get p3 (by simp;omega)
 obtain⟨m4,e4,r4,f4⟩:=j92 (r3.keep (some (.cells [.int .i64 0,.int .u64 0,.int .i64 k.1] false)) qb qr);have q4:=f4.get q3' (nb qb);have p4:=f4.get p3' (nb pb);obtain⟨hi,hhi⟩:∃hi,hi=(z0e B k.2).1:=⟨_,rfl⟩;rw[<-hhi]at e4;have s4:=st3 (cs:=[.int .i64 hi,.int .u64 0,.int .i64 k.1]) q4 (v:=.int .i64 hi) (o:=0) rfl (by omega) rfl;have q4':=q0x (w:=some (.cells [.int .i64 hi,.int .u64 0,.int .i64 k.1] false)) q4
 have p4':=(Fr.put m4 m1.next (some (.cells [.int .i64 hi,.int .u64 0,.int .i64 k.1] false))).get p4 (by simp;omega)
 obtain⟨m5,e5,r5,f5⟩:=q2T (most:=q0M) (r4.keep (some (.cells [.int .i64 hi,.int .u64 0,.int .i64 k.1] false)) qb qr);have q5:=f5.get q4' (nb qb);have p5:=f5.get p4' (nb pb);obtain⟨lo,hlo⟩:∃lo,lo=(q1a B q0M (z0e B k.2).2).1:=⟨_,rfl⟩;rw[<-hlo]at e5;have s5:=st3 (cs:=[.int .i64 hi,.int .u64 lo,.int .i64 k.1]) q5 (v:=.int .u64 lo) (o:=1) rfl (by omega) rfl;have q5':=q0x (w:=some (.cells [.int .i64 hi,.int .u64 lo,.int .i64 k.1] false)) q5
 have p5':=(Fr.put m5 m1.next (some (.cells [.int .i64 hi,.int .u64 lo,.int .i64 k.1] false))).get p5 (by simp;omega)
 have s6:=q1B (v:=.agg [.int .i64 hi,.int .u64 lo,.int .i64 k.1]) (vs:=[.int .i64 hi,.int .u64 lo,.int .i64 k.1]) (o:=0) (n:=3) p5' rfl rfl (by simp);have p6:=q0x (w:=some (.cells [.int .i64 hi,.int .u64 lo,.int .i64 k.1] false)) p5';have fin:=(r5.keep (some (.cells [.int .i64 hi,.int .u64 lo,.int .i64 k.1] false)) qb qr).keep (some (.cells [.int .i64 hi,.int .u64 lo,.int .i64 k.1] false)) pb pr
 refine⟨_,?_,fin,?_⟩
 ·have l5:=(q1b (o:=0) (n:=3) q5' (by simp)).trans (show _=some (.agg [.int .i64 hi,.int .u64 lo,.int .i64 k.1]) from rfl);have l6:=(q1b (o:=0) (n:=3) p6 (by simp)).trans (show _=some (.agg [.int .i64 hi,.int .u64 lo,.int .i64 k.1]) from rfl);simp only[xBp,xAm,xnz,xBh,List.drop_nil,xBe]at s6;simp only[q3e,<-hhi,<-hlo,a9F (H:=H50) rfl,b6H,pB,p1,q1,q0P,q0T,a0F,<-hm1,<-hm2,e3,wk,s3,e4,s4,e5,s5,l5,s6,l6]
 ·have a2:Fr m m2 [b]:=(f1.step0 f2).any _;have a3:=a2.step f3 (fun c hc=>.inl hc)
  have q:m.next<=m1.next:=f1.next
  have put:∀{M:Mem} (x:Nat) (w:Option Blk),Fr m M [b]->m.next<=x->Fr m (M.put x w) [b]:=fun x w hM hx=>hM.step (Fr.put _ x w) (fun c hc=>by simp at hc;exact .inr (by omega))
  have a4:=(put m1.next (some (.cells [.int .i64 0,.int .u64 0,.int .i64 k.1] false)) a3 q).step f4 (fun c hc=>.inl hc)
  have a5:=(put m1.next (some (.cells [.int .i64 hi,.int .u64 0,.int .i64 k.1] false)) a4 q).step f5 (fun c hc=>.inl hc)
  exact put _ _ (put _ _ a5 q) (xnr _)
end
end
section
section
variable {m m':Mem} {B:List UInt8} {x:AV}
theorem st5 {q:Nat} {cs ds:List AV} {o n:Nat} {v:AV} {vs:List AV} (h:m.get q=some (.cells cs false)) (hv:v.cells=some vs) (hn:vs.length=n) (ho:o+n<=cs.length) (hc:cs.take o++vs++cs.drop (o+n)=ds) :
  stV m (.ptr (some ⟨q,o⟩)) v n=some (m.put q (some (.cells ds false))):=by
 rw[q1B h hv hn ho,hc]
theorem z5E (hx:Sl m x (u8 B)) (hl:B.length<4611686018427387904) (hl2:B.length<=q0j) :
  ∃m',run E50 (.fn 242) [x] m=some (.tup [.agg (q95 B).1.cells,.int .i64 (q95 B).2],m')/\Fr m m' []:=by
 have z5:∀M:Mem,Fr M (M.lay (.cells [.int .i64 0,.int .u64 0,.int .i64 0,.int .u64 0,.int .i64 0] false)) []:=fun M=>(Fr.refl M).lay _
 obtain⟨m1,hm1⟩:∃m1,m1=m.lay (.cells [.int .i64 0,.int .u64 0,.int .i64 0,.int .u64 0,.int .i64 0] false):=⟨_,rfl⟩;have f1:Fr m m1 []:=hm1▸z5 m;have n1:m1.next=m.next+1:=by rw[hm1];simp
 obtain⟨b,m2,rb,e2,r2,f2,lb,lr⟩:=j98 (hx.frame f1 (by simp)) hl hl2;obtain⟨m3,hm3⟩:∃m3,m3=m2.lay (.cells [.int .i64 0,.int .u64 0,.int .i64 0,.int .u64 0,.int .i64 0] false):=⟨_,rfl⟩;have f3:Fr m2 m3 []:=hm3▸z5 m2;have hb:=r2.blt;have hr:=r2.rlt;have n2:=f2.next
 have gp:m3.get m.next=some (.cells [.int .i64 0,.int .u64 0,.int .i64 0,.int .u64 0,.int .i64 0] false):=f3.get (f2.get (by rw[hm1];exact q0k _ _) (by simp)) (by simp)
 have gq:m3.get m2.next=some (.cells [.int .i64 0,.int .u64 0,.int .i64 0,.int .u64 0,.int .i64 0] false):=by rw[hm3];exact q0k _ _
 have qb:b≠m2.next:=by omega
 have pb:b≠m.next:=by omega
 have qr:rb≠some m2.next:=fun hc=>by have:=hr _ hc;omega
 have pq:m.next≠m2.next:=by omega
 have nb:∀{x:Nat},b≠x->x∉[b]:=fun h=>by simp;exact fun e=>h e.symm
 obtain⟨m4,e4,r4,f4⟩:=q8r (most:=99) (r2.q0m f3);have hc:=q2S (B:=B) (st:=⟨0,0⟩) (most:=99);obtain⟨c,hcd⟩:∃c,c=q1L B 99 ⟨0,0⟩:=⟨_,rfl⟩;rw[<-hcd]at e4 r4 hc;have wc:IntKind.wrap .i64 c.1=c.1:=by rw[wrap_i64 (by omega) (by omega)]
 have s4:=st5 (v:=.int .i64 c.1) (vs:=[.int .i64 c.1]) (o:=0) (n:=1) (ds:=[.int .i64 c.1,.int .u64 0,.int .i64 0,.int .u64 0,.int .i64 0]) (f4.get gq (nb qb)) rfl rfl (by simp) rfl;have q4:=q0x (w:=some (.cells [.int .i64 c.1,.int .u64 0,.int .i64 0,.int .u64 0,.int .i64 0] false)) (f4.get gq (nb qb));have p4:=(Fr.put m4 m2.next (some (.cells [.int .i64 c.1,.int .u64 0,.int .i64 0,.int .u64 0,.int .i64 0] false))).get (f4.get gp (nb pb)) (by simpa using pq)
 obtain⟨m5,e5,r5,f5⟩:=q2T (most:=q0M) (r4.keep (some (.cells [.int .i64 c.1,.int .u64 0,.int .i64 0,.int .u64 0,.int .i64 0] false)) qb qr);obtain⟨v,hv⟩:∃v,v=q1a B q0M c.2:=⟨_,rfl⟩;rw[<-hv]at e5 r5;have s5:=st5 (v:=.int .u64 v.1) (vs:=[.int .u64 v.1]) (o:=1) (n:=1) (ds:=[.int .i64 c.1,.int .u64 v.1,.int .i64 0,.int .u64 0,.int .i64 0]) (f5.get q4 (nb qb)) rfl rfl (by simp) rfl;have q5:=q0x (w:=some (.cells [.int .i64 c.1,.int .u64 v.1,.int .i64 0,.int .u64 0,.int .i64 0] false)) (f5.get q4 (nb qb))
 have p5:=(Fr.put m5 m2.next (some (.cells [.int .i64 c.1,.int .u64 v.1,.int .i64 0,.int .u64 0,.int .i64 0] false))).get (f5.get p4 (nb pb)) (by simpa using pq)
 obtain⟨m6,e6,r6,f6⟩:=j1m (r5.keep (some (.cells [.int .i64 c.1,.int .u64 v.1,.int .i64 0,.int .u64 0,.int .i64 0] false)) qb qr);obtain⟨k,hk⟩:∃k,k=q1L B 18 v.2:=⟨_,rfl⟩;rw[<-hk]at e6 r6;obtain⟨w,hw⟩:∃w,w=q3e B k.2:=⟨_,rfl⟩;rw[<-hw]at e6 r6;have s6:=st5 (v:=.agg [.int .i64 w.1.hi,.int .u64 w.1.lo,.int .i64 k.1]) (vs:=[.int .i64 w.1.hi,.int .u64 w.1.lo,.int .i64 k.1]) (o:=2) (n:=3) (ds:=[.int .i64 c.1,.int .u64 v.1,.int .i64 w.1.hi,.int .u64 w.1.lo,.int .i64 k.1]) (f6.get q5 (nb qb)) rfl rfl (by simp) rfl
 have q6:=q0x (w:=some (.cells [.int .i64 c.1,.int .u64 v.1,.int .i64 w.1.hi,.int .u64 w.1.lo,.int .i64 k.1] false)) (f6.get q5 (nb qb));have p6:=(Fr.put m6 m2.next (some (.cells [.int .i64 c.1,.int .u64 v.1,.int .i64 w.1.hi,.int .u64 w.1.lo,.int .i64 k.1] false))).get (f6.get p5 (nb pb)) (by simpa using pq)
 have e7:=z2t (r6.keep (some (.cells [.int .i64 c.1,.int .u64 v.1,.int .i64 w.1.hi,.int .u64 w.1.lo,.int .i64 k.1] false)) qb qr);have hd:q95 B=if q7A B w.2≠0 then (j1H,q7A B w.2) else (⟨c.1,v.1,w.1,k.1⟩,0):=by
  subst hcd;subst hv;subst hk;subst hw;rfl
 have s7:∀r:q5W,stV (m6.put m2.next (some (.cells [.int .i64 c.1,.int .u64 v.1,.int .i64 w.1.hi,.int .u64 w.1.lo,.int .i64 k.1] false))) (.ptr (some ⟨m.next,0⟩)) (.agg r.cells) 5=some ((m6.put m2.next (some (.cells [.int .i64 c.1,.int .u64 v.1,.int .i64 w.1.hi,.int .u64 w.1.lo,.int .i64 k.1] false))).put m.next (some (.cells r.cells false))):=fun r=>st5 (vs:=r.cells) p6 rfl rfl (by simp) (by simp[q5W.cells])
 have l7:∀r:q5W,ldN ((m6.put m2.next (some (.cells [.int .i64 c.1,.int .u64 v.1,.int .i64 w.1.hi,.int .u64 w.1.lo,.int .i64 k.1] false))).put m.next (some (.cells r.cells false))) (.ptr (some ⟨m.next,0⟩)) 5=some (.agg r.cells):=fun r=>(q1b (q0x p6) (by simp[q5W.cells])).trans (by simp[q5W.cells])
 have l6:=(q1b (o:=0) (n:=5) q6 (by simp)).trans (show _=some (.agg (⟨c.1,v.1,w.1,k.1⟩:q5W).cells) from rfl);have fin:∀r:q5W,Fr m ((m6.put m2.next (some (.cells [.int .i64 c.1,.int .u64 v.1,.int .i64 w.1.hi,.int .u64 w.1.lo,.int .i64 k.1] false))).put m.next (some (.cells r.cells false))) []:=fun r=>by
  have hmb:m.next<=b:=by omega
  have hmq:m.next<=m2.next:=by omega
  have put:∀{M:Mem} (x:Nat) (w:Option Blk),Fr m M []->m.next<=x->Fr m (M.put x w) []:=fun x w hM hx=>hM.step (Fr.put _ x w) (fun c hc=>by simp at hc;exact .inr (by omega))
  have stp:∀{M M':Mem},Fr m M []->Fr M M' [b]->Fr m M' []:=fun hM h=>hM.step h (fun c hc=>by simp at hc;exact .inr (by omega))
  exact put _ _ (put _ _ (stp (put _ _ (stp (put _ _ (stp ((f1.step0 f2).step0 f3) f4) hmq) f5) hmq) f6) hmq) (xnr _)
 rw[hd];by_cases he:q7A B w.2=0
 ·rw[xAa (by simp[he])];refine⟨_,?_,fin ⟨c.1,v.1,w.1,k.1⟩⟩;simp only[j4H (H:=H50) rfl,b5p,pB,p1,p2,q0p,q0b,q0P,q0T,q0r,<-hm1,<-hm3,e2,e4,wc,s4,e5,s5,e6,s6,e7,dt he,xbt,j5T (H:=H50),j2X,q1,q0r,l6,s7,l7]
 ·rw[xAb he];refine⟨_,?_,fin j1H⟩;have zc:AV.agg [.int .i64 0,.int .u64 0,.int .i64 0,.int .u64 0,.int .i64 0]=.agg j1H.cells:=rfl;simp only[j4H (H:=H50) rfl,b5p,pB,p1,p2,q0p,q0b,q0P,q0T,q0r,<-hm1,<-hm3,e2,e4,wc,s4,e5,s5,e6,s6,e7,df he,xbf,zc,s7,l7]
end
end
section
abbrev q6k (m:Mem) (a b:Nat) (e:Int):Prop:=m.get a=some (.cells [.ptr (some ⟨b,0⟩),.int .i64 e] false)/\a≠b
theorem b8A:(TP).underlying 5=some (.int .u8):=by kernel_rfl
theorem z3n:∀l:List UInt8,q41 (u8 l)=some l
 |[]=>rfl
 |x::l=>by
  show (q41 (u8 l)).map (UInt8.ofNat ((x.toNat:Int).toNat)::·)=_;rw[z3n l];simp
theorem b5b {m:Mem} {s:AV} {l:List UInt8} (h:Sl m s (u8 l)):q7V TP 34 s m=some (.str l):=by
 unfold q7V;simp only[huB,b8A];rcases h with ⟨sz,ex,rfl,h0⟩|⟨a,sz,cap,ex,cs,ro,rfl,hs,h0,h1,h2,h3⟩
 ·have:l=[]:=by simpa[u8]using h0
  subst this;rfl
 ·have e:q0C m a (u8 l).length=some (u8 l):=by
   simp only[q0C,h1,h3];rw[xAb h2]
  simp only[e,xAr,z3n,xom]
section
variable {m m':Mem} {a b:Nat} {e:Int} {B:List UInt8} {st:RS} {rb:Option Nat}
theorem q6k.to (h:q6k m a b e) (hf:Fr m m' [b]):q6k m' a b e:=⟨hf.get h.1 (by simpa using h.2),h.2⟩
theorem j0Z (hi:q6k m a b e) (h:q2s m b B st rb) :
  ∃m',run E50 (.fn 166) [.ptr (some ⟨a,0⟩)] m=some (.agg (q3e B st).1.cells,m')/\q2s m' b B (q3e B st).2 rb/\Fr m m' [b]:=by
 obtain⟨m1,hm1⟩:∃m1,m1=m.lay (.cells [.int .i64 0,.int .u64 0] false):=⟨_,rfl⟩;have f1:Fr m m1 []:=hm1▸(Fr.refl m).lay _;have hb:=h.blt;have i1:q6k m1 a b e:=⟨f1.get hi.1 (by simp),hi.2⟩;have gq:m1.get m.next=some (.cells [.int .i64 0,.int .u64 0] false):=by rw[hm1];exact q0k _ _
 have nq:m.next∉[b]:=by simp;omega
 obtain⟨m2,e2,r2,f2⟩:=j92 (h.q0m f1);have i2:=i1.to f2;obtain⟨m3,e3,r3,f3⟩:=q2T (most:=q0M) r2;have q3:=f3.get (f2.get gq nq) nq;have s4:=q1B (v:=.agg [.int .i64 (z0e B st).1,.int .u64 (q1a B q0M (z0e B st).2).1]) (vs:=[.int .i64 (z0e B st).1,.int .u64 (q1a B q0M (z0e B st).2).1]) (o:=0) (n:=2) q3 rfl rfl (by simp);simp only[xBp,xAm,xnz,xBh,List.drop_nil,xBe]at s4;have q4:=q0x (w:=some (.cells [.int .i64 (z0e B st).1,.int .u64 (q1a B q0M (z0e B st).2).1] false)) q3
 have l4:=(q1b (o:=0) (n:=2) q4 (by simp)).trans (show _=some (.agg [.int .i64 (z0e B st).1,.int .u64 (q1a B q0M (z0e B st).2).1]) from rfl);refine⟨_,?_,r3.keep (some (.cells [.int .i64 (z0e B st).1,.int .u64 (q1a B q0M (z0e B st).2).1] false)) (show b≠m.next by omega) (fun hc=>by have:=h.rlt _ hc;omega),((((f1.any _).step f2 (fun c hc=>.inl hc)).step f3 (fun c hc=>.inl hc))).step (Fr.put _ _ _) (fun c hc=>by simp at hc;exact .inr (by omega))⟩
 simp only[a9p (H:=H50) rfl,b6r,pB,p1,q1,q0p,AV.cells,Nat.reduceAdd,Nat.reduceLeDiff,nnA,q0P,q0T,q0r,<-hm1,q0e i1.1,q0e i2.1,e2,e3,s4,l4,q3e,Wd.cells]
theorem z11 (hi:q6k m a b e) (h:q2s m b B st rb) (hmx:B.length<=q0j) :
  ∃m',run E50 (.fn 164) [.ptr (some ⟨a,0⟩)] m=some (.str (q1g B 3 st).1,m')/\q2s m' b B (q1g B 3 st).2 rb/\Fr m m' [b]:=by
 obtain⟨s,m',rs,e1,r1,r2,f1,_⟩:=z98 (most:=3) (by omega) (by omega) h hmx;refine⟨m',?_,r2,f1⟩;simp only[a9o (H:=H50) rfl,b6q,p1,q1,nnA,q0f,q0e hi.1,e1,b5b r1.sl]
end
end
section
section
variable {m m':Mem} {a b:Nat} {B:List UInt8} {α:Type} {I:Mem->PS->List α->Prop} {f:RS->α×PS} {fv:AV}
theorem j4n (hi:∀m s l,I m s l->q6k m a b s.e) {N:Nat} (hf:∀m s l,I m s l->s.e=0->l.length<N->∃v m',q1m (Da H50).call fv [] m=some (v,m')/\I m' (f s.rs).2 (l++[(f s.rs).1])) :
  ∀(n:Nat) (m:Mem) (s:PS) (l:List α),n<18446744073709551616->l.length+n<=N->I m s l->
   ∃m',D50.gor 663552 [.ptr (some ⟨a,0⟩),fv,.int .u64 (n:Int)] m=some (.undef,m')/\I m' (q2Q f n s).2 (l++(q2Q f n s).1)
 | 0,m,s,l,_,_,h=>by
  refine⟨m,?_,by simpa[q2Q]using h⟩;rw[q87];simp only[z2T,p2,p1,q1,nnA,q0b,ifV,q0f,df (show ¬(0:Int)<0 by omega)]
 |n+1,m,s,l,hn,hN,h=>by
  have h1:=(hi m s l h).1;have d1:decide ((0:Int)<((n+1:Nat):Int))=true:=dt (by omega);unfold q2Q;by_cases he:s.e=0
  ·rw[xAa (by simpa using he)];obtain⟨v,m1,e1,i1⟩:=hf m s l h he (by omega);obtain⟨m2,e2,i2⟩:=j4n hi hf n m1 _ _ (by omega) (by rw[xla0,xEe];omega) i1;refine⟨m2,?_,by simpa using i2⟩;have w1:IntKind.wrap .u64 (((n+1:Nat):Int)-1)=(n:Int):=by rw[q0i];omega
   rw[q87];simp only[z2T,p2,p1,q1,nnA,q0b,ifV,q0f,d1,q0e h1,dt he,j5q (H:=H50),j2u,q0f,e1,j5r (H:=H50),j2v,q0f,w1,e2]
  ·rw[xAb he];refine⟨m,?_,by simpa using h⟩;rw[q87];simp only[z2T,p2,p1,q1,nnA,q0b,ifV,q0f,d1,q0e h1,df he]
theorem z6M {most:Int} {st:RS} (hm:0<=most/\most<18446744073709551616) {N:Nat} (hN:most<=N) (hi:∀m s l,I m s l->q6k m a b s.e) (hf:∀m s l,I m s l->s.e=0->l.length<N->∃v m',q1m (Da H50).call fv [] m=some (v,m')/\I m' (f s.rs).2 (l++[(f s.rs).1]))
  (h:I m ⟨st,0⟩ []) (hn:∃m',run E50 (.fn 168) [.ptr (some ⟨b,0⟩),.int .u64 most] m=some (.int .u64 (q1a B most st).1,m')/\I m' ⟨(q1a B most st).2,0⟩ []) :
  ∃m',run E50 (.fn 162) [.ptr (some ⟨a,0⟩),.int .u64 most,fv] m=some (.undef,m')/\I m' (q2Q f (q1a B most st).1.toNat ⟨(q1a B most st).2,0⟩).2 (q2Q f (q1a B most st).1.toNat ⟨(q1a B most st).2,0⟩).1:=by
 have h1:=(hi m _ _ h).1;obtain⟨m1,e1,i1⟩:=hn;obtain⟨n0,n1⟩:=q1A (B:=B) (st:=st) hm.1 hm.2;obtain⟨m2,e2,i2⟩:=j4n hi hf (q1a B most st).1.toNat m1 _ _ (by omega) (by rw[xAv];omega) i1;rw[xFs n0]at e2;exact⟨m2,by simp only[a9m (H:=H50) rfl,b6o,p1,q1,nnA,q0f,q0e h1,e1,e2],by simpa using i2⟩
end
end
section
section
variable {m m' m1 m2:Mem} {b c d:Nat} {bs bs2:List UInt8} {F F' S:List Nat}
theorem a0K (h:q5v m b bs F) {n:Int} (h0:0<=n) (h1:n<256) (hl:bs.length+1<=q0j) :
  ∃m',run E50 (.fn 83) [.ptr (some ⟨b,0⟩),.int .u8 n] m=some (.undef,m')/\q1I m m' b (bs++q2J n) F:=by
 obtain⟨m',F',e,r⟩:=a4N h (UInt8.ofNat n.toNat) hl;rw[show ((UInt8.ofNat n.toNat).toNat:Int)=n by rw[ofNat_lt (by omega)];omega]at e;exact⟨m',e,F',r⟩
theorem b5d {w:Wd} (h:w.ok):(-9223372036854775808<=w.hi/\w.hi<9223372036854775808)/\0<=w.lo/\w.lo<18446744073709551616:=⟨⟨h.1,h.2.1⟩,h.2.2.1,h.2.2.2⟩
theorem q3Q (w:Wd):(q3g w).length<=20:=by
 have h1:=(q0N (zig w.hi)).2;have h2:=(q0N w.lo).2;simp only[q3g,a0S,xla0];omega
theorem j9c {w:Wd} {k:Int} (hw:w.ok) (k0:0<=k) (k1:k<256) (h:q5v m b bs F) (hl:bs.length+21<=q0j) :
  ∃m',run E50 (.fn 158) [.ptr (some ⟨b,0⟩),.agg [.int .i64 w.hi,.int .u64 w.lo,.int .i64 k]] m=some (.undef,m')/\q1I m m' b (bs++(q2J k++q3g w)) F:=by
 obtain⟨⟨a0,a1⟩,a2,a3⟩:=b5d hw;have f0:Fr m (m.lay (.cells [.int .i64 w.hi,.int .u64 w.lo,.int .i64 k] false)) []:=(Fr.refl m).lay _;have hq:m.next∉F:=fun hc=>xDp _ (h.lt _ hc)
 have hn:q2J k=[UInt8.ofNat k.toNat]:=rfl;have hv:=(q0N (zig w.hi)).2;obtain⟨m1,e1,F1,h1,r1,s1⟩:=a0K (h.q0m f0) k0 k1 (by omega);have s1':∀x∈F1,x∈F\/m.next<x:=fun x hx=>(s1 x hx).imp_right (fun h=>Nat.lt_of_succ_le (by simpa using h))
 have g1:=r1.get (q0k m (.cells [.int .i64 w.hi,.int .u64 w.lo,.int .i64 k] false)) hq;have hq1:m.next∉F1:=fun hc=>by rcases s1' _ hc with h|h;exact hq h;exact xDp _ h
 obtain⟨m2,e2,F2,h2,r2,s2⟩:=a0I a0 a1 h1 (by rw[xla0,hn];simp only[xAi,xAv];omega);have g2:=r2.get g1 hq1;obtain⟨m3,e3,w3⟩:=q9W a2 a3 h2 (by simp only[xla0,hn,xAi,xAv,a0S];omega);refine⟨m3,?_,?_⟩
 ·have e0:q00 (.agg [.int .i64 w.hi,.int .u64 w.lo,.int .i64 k])=some (.cells [.int .i64 w.hi,.int .u64 w.lo,.int .i64 k] false,fun b=>.ptr (some ⟨b,0⟩)):=by rfl
  have ew:IntKind.wrap .u8 k=k:=by rw[q2X];omega
  simp only[a9l (H:=H50) rfl,b6n,p1,q1,q0f,e0,q0e (q0k _ _),q0e g1,q0e g2,ew,e1,e2,e3]
 ·have e:bs++(q2J k++q3g w)=bs++q2J k++a0S w.hi++q5R w.lo:=by simp only[q3g,xAg]
  rw[e];exact q5U ((f0.any F).step r1 (fun c hc=>.inl hc)) (fun x hx=>(s1' x hx).imp_right Nat.le_of_lt) (q5U r2 s2 w3)
abbrev Wc (m:Mem) (c b:Nat) (F:List Nat):Prop:=m.get c=some (.cells [.ptr (some ⟨b,0⟩)] false)/\c∉F
theorem Wc.to (h:Wc m c b F) (h1:Fr m m1 F) (h2:∀x∈F',x∈F\/m.next<=x):Wc m1 c b F':=
 ⟨h1.get h.1 h.2,fun hc=>by
  rcases h2 c hc with h'|h'
  ·exact h.2 h'
  ·have:=Mem.q0u h.1;omega⟩
theorem a8M {w:Wd} (hw:w.ok) (h:q5v m b bs F) (hc:Wc m c b F) (hl:bs.length+20<=q0j) :
  ∃m',run E50 (.fn 77) [.agg [.int .i64 w.hi,.int .u64 w.lo],.ptr (some ⟨c,0⟩)] m=some (.undef,m')/\q1I m m' b (bs++q3g w) F:=by
 obtain⟨⟨a0,a1⟩,a2,a3⟩:=b5d hw;have f0:Fr m (m.lay (.cells [.int .i64 w.hi,.int .u64 w.lo] false)) []:=(Fr.refl m).lay _;have hq:m.next∉F:=fun hc=>xDp _ (h.lt _ hc)
 have hv:=(q0N (zig w.hi)).2;have c0:Wc _ c b F:=⟨f0.get hc.1 (by simp),hc.2⟩;obtain⟨m1,e1,F1,h1,r1,s1⟩:=a0I a0 a1 (h.q0m f0) (by omega);have s1':∀x∈F1,x∈F\/m.next<x:=fun x hx=>(s1 x hx).imp_right (fun h=>Nat.lt_of_succ_le (by simpa using h))
 have g1:=r1.get (q0k m (.cells [.int .i64 w.hi,.int .u64 w.lo] false)) hq;have c1:=c0.to r1 s1;obtain⟨m2,e2,w2⟩:=q9W a2 a3 h1 (by simp only[xla0,a0S];omega);refine⟨m2,?_,?_⟩
 ·have e0:q00 (.agg [.int .i64 w.hi,.int .u64 w.lo])=some (.cells [.int .i64 w.hi,.int .u64 w.lo] false,fun b=>.ptr (some ⟨b,0⟩)):=by rfl
  simp only[b3U (H:=H50) rfl,F77,q1,p1,q0f,e0,q0e (q0k _ _),q0e g1,q0e c0.1,q0e c1.1,e1,e2]
 ·rw[show bs++q3g w=bs++a0S w.hi++q5R w.lo by simp only[q3g,xAg]];exact q5U ((f0.any F).step r1 (fun c hc=>.inl hc)) (fun x hx=>(s1' x hx).imp_right Nat.le_of_lt) w2
end
end
end Go.Proofs.YtkbhcgifnnhbaaaGreatDoor
