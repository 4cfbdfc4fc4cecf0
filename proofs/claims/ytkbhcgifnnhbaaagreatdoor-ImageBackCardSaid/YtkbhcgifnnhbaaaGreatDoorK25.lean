/- Texts of one claim, put together. -/
import Derived.Test.YtkbhcgifnnhbaaaGreatDoorK24
namespace Go.Proofs.YtkbhcgifnnhbaaaGreatDoor
open Go Go.Abs
set_option maxRecDepth 20000
set_option maxHeartbeats 400000
section
section
variable {m0 m m' m1 m2:Mem} {b c d q:Nat} {bs bs2:List UInt8} {F F' S:List Nat}
theorem q5v.self (h:q5v m b bs F):q1I m m b bs F:=⟨F,h,Fr.refl' m F,fun _ h=>.inl h⟩
theorem q1I.get {B:Blk} (h:q1I m0 m b bs F) (g:m0.get q=some B) (hq:q∉F):m.get q=some B:=by
 obtain⟨_,_,h2,_⟩:=h;exact h2.get g hq
theorem q1I.q0m (h:q1I m0 m b bs F) (hf:Fr m m' []):q1I m0 m' b bs F:=by
 obtain⟨F',h1,h2,h3⟩:=h;exact⟨F',h1.q0m hf,h2.step0 hf,h3⟩
theorem q1I.ahead {x:Blk} (h:q1I (m.lay x) m' b bs F):q1I m m' b bs F:=by
 obtain⟨F',h1,h2,h3⟩:=h;exact⟨F',h1,(((Fr.refl m).lay x).any F).step h2 (fun c hc=>.inl hc),fun y hy=>(h3 y hy).imp_right (fun h=>Nat.le_of_succ_le (by simpa using h))⟩
theorem q4P {n:Int} (h0:0<=n) (h1:n<18446744073709551616) (h:q1I m0 m b bs F) (hl:bs.length+10<=q0j) :
  ∃m',run E50 (.fn 79) [.ptr (some ⟨b,0⟩),.int .u64 n] m=some (.undef,m')/\q1I m0 m' b (bs++q5R n) F:=by
 obtain⟨F',g1,g2,g3⟩:=h;obtain⟨m',e,w⟩:=q9W h0 h1 g1 hl;exact⟨m',e,q5U g2 g3 w⟩
theorem z7D {n:Int} (h0:0<=n) (h1:n<256) (h:q1I m0 m b bs F) (hl:bs.length+1<=q0j) :
  ∃m',run E50 (.fn 83) [.ptr (some ⟨b,0⟩),.int .u8 n] m=some (.undef,m')/\q1I m0 m' b (bs++q2J n) F:=by
 obtain⟨F',g1,g2,g3⟩:=h;obtain⟨m',e,w⟩:=a0K g1 h0 h1 hl;exact⟨m',e,q5U g2 g3 w⟩
theorem z5W {w:Wd} (hw:w.ok) (hc:Wc m0 c b F) (h:q1I m0 m b bs F) (hl:bs.length+20<=q0j) :
  ∃m',run E50 (.fn 77) [.agg [.int .i64 w.hi,.int .u64 w.lo],.ptr (some ⟨c,0⟩)] m=some (.undef,m')/\q1I m0 m' b (bs++q3g w) F:=by
 obtain⟨F',g1,g2,g3⟩:=h;obtain⟨m',e,w⟩:=a8M hw g1 (hc.to g2 g3) hl;exact⟨m',e,q5U g2 g3 w⟩
theorem b5a {w:Wd} {k:Int} (hw:w.ok) (k0:0<=k) (k1:k<256) (h:q1I m0 m b bs F) (hl:bs.length+21<=q0j) :
  ∃m',run E50 (.fn 158) [.ptr (some ⟨b,0⟩),.agg [.int .i64 w.hi,.int .u64 w.lo,.int .i64 k]] m=some (.undef,m')/\q1I m0 m' b (bs++(q2J k++q3g w)) F:=by
 obtain⟨F',g1,g2,g3⟩:=h;obtain⟨m',e,w⟩:=j9c hw k0 k1 g1 hl;exact⟨m',e,q5U g2 g3 w⟩
theorem j0h (l:List UInt8) (h:q1I m0 m b bs F) (hl:bs.length+10+l.length<=q0j) :
  ∃m',run E50 (.fn 82) [.ptr (some ⟨b,0⟩),.sl (some ⟨m.next,0⟩) 1 l.length l.length false] (m.lay (.cells (l.map fun c=>.int .u8 c.toNat) true))=some (.undef,m')/\q1I m0 m' b (bs++q1Z l) F:=by
 obtain⟨F',g1,g2,g3⟩:=h;have hq:m.next∉F':=fun hc=>xDp _ (g1.lt _ hc)
 obtain⟨m',e,w⟩:=j0p (l:=l) (x:=.sl (some ⟨m.next,0⟩) 1 l.length l.length false) (fun M hM=>.inr ⟨⟨m.next,0⟩,1,l.length,false,u8 l,true,by simp[u8],.inl rfl,by simp[u8],hM.get (q0k m (.cells (u8 l) true)) hq,by simp,xtl (by simp[u8])⟩) (g1.q0m ((Fr.refl m).lay _)) hl
 exact⟨m',e,q5U g2 g3 w.ahead⟩
theorem a8N {p:q0v} (hs:0<=p.scale/\p.scale<256) (hw:p.out.ok) (h:q5v m b bs F) (hc:Wc m c b F) (hd:m.get d=some (.cells [.fn (.func 77) [] [.ptr (some ⟨c,0⟩)]] false)) (hdF:d∉F) (hl:bs.length+(q5o p).length+100<=q0j) :
  ∃m',run E50 (.fn 81) [.agg p.cells,.ptr (some ⟨c,0⟩),.ptr (some ⟨d,0⟩)] m=some (.undef,m')/\q1I m m' b (bs++q5o p) F:=by
 have hl':=hl;have hv:=q0N (p.name.length:Int);simp only[q5o,xla0,q1Z]at hl';have f0:Fr m (m.lay (.cells p.cells false)) []:=(Fr.refl m).lay _;have hq:m.next∉F:=fun hc=>xDp _ (h.lt _ hc)
 have hq0:=q0k m (.cells p.cells false);have c0:Wc _ c b F:=⟨f0.get hc.1 (by simp),hc.2⟩;have d0:=f0.get hd (by simp);have w0:=(h.q0m f0).self;obtain⟨m1,e1,w1⟩:=j0h p.name w0 (by omega);obtain⟨m2,e2,w2⟩:=z7D hs.1 hs.2 w1 (by simp only[xla0,q1Z];omega);obtain⟨m3,e3,w3⟩:=z5W hw c0 w2 (by simp only[xla0,q1Z,q2J,xAi,xAv]at hl'⊢;omega);refine⟨m3,?_,?_⟩
 ·have e0:q00 (.agg p.cells)=some (.cells p.cells false,fun b=>.ptr (some ⟨b,0⟩)):=by rfl
  have es:b1U (.str p.name)=some (.cells (p.name.map fun c=>.int .u8 c.toNat) true,fun b=>.sl (some ⟨b,0⟩) 1 p.name.length p.name.length false):=by rfl
  have ew:IntKind.wrap .u8 p.scale=p.scale:=by rw[q2X];omega
  have k0:p.cells[0]? = some (.str p.name):=by rfl
  have k1:p.cells[1]? = some (.int .i64 p.scale):=by rfl
  have k2:ldN m2 (.ptr (some ⟨m.next,2⟩)) 2=some (.agg [.int .i64 p.out.hi,.int .u64 p.out.lo]):=(q1b (w2.get hq0 hq) (by simp[q0v.cells])).trans rfl
  simp only[b3Y (H:=H50) rfl,F81,q1,p1,q0f,e0,es,q0e hq0,q0e (w1.get hq0 hq),q0e (w0.get c0.1 c0.2),q0e (w1.get c0.1 c0.2),q0e (w2.get d0 hdF),k0,k1,k2,ew,e1,e2,q1m,xAm,xAy,e3]
 ·rw[show bs++q5o p=bs++q1Z p.name++q2J p.scale++q3g p.out by simp only[q5o,xAg]];exact w3.ahead
theorem a8O {p:q0D} (hs:0<=p.q0V/\p.q0V<256) (hw:p.rate.ok/\p.inx.ok/\p.q2I.ok) (h:q5v m b bs F) (hc:Wc m c b F) (hd:m.get d=some (.cells [.fn (.func 77) [] [.ptr (some ⟨c,0⟩)]] false)) (hdF:d∉F) (hl:bs.length+(q9U p).length+100<=q0j) :
  ∃m',run E50 (.fn 85) [.agg p.cells,.ptr (some ⟨c,0⟩),.ptr (some ⟨d,0⟩)] m=some (.undef,m')/\q1I m m' b (bs++q9U p) F:=by
 have hl':=hl;have hv:=q0N (p.x.length:Int);have hv2:=q0N (p.y.length:Int);have hb:(q2J p.q0V).length=1:=rfl;simp only[q9U,xla0,q1Z]at hl';have f0:Fr m (m.lay (.cells p.cells false)) []:=(Fr.refl m).lay _;have hq:m.next∉F:=fun hc=>xDp _ (h.lt _ hc)
 have hq0:=q0k m (.cells p.cells false);have c0:Wc _ c b F:=⟨f0.get hc.1 (by simp),hc.2⟩;have d0:=f0.get hd (by simp);have w0:=(h.q0m f0).self;obtain⟨m1,e1,w1⟩:=j0h p.x w0 (by omega);obtain⟨m2,e2,w2⟩:=j0h p.y w1 (by simp only[xla0,q1Z];omega);obtain⟨m3,e3,w3⟩:=z7D hs.1 hs.2 w2 (by simp only[xla0,q1Z];omega);obtain⟨m4,e4,w4⟩:=z5W hw.1 c0 w3 (by simp only[xla0,q1Z];omega);obtain⟨m5,e5,w5⟩:=z5W hw.2.1 c0 w4 (by simp only[xla0,q1Z];omega)
 obtain⟨m6,e6,w6⟩:=z5W hw.2.2 c0 w5 (by simp only[xla0,q1Z];omega);refine⟨m6,?_,?_⟩
 ·have e0:q00 (.agg p.cells)=some (.cells p.cells false,fun b=>.ptr (some ⟨b,0⟩)):=by rfl
  have es:∀s:List UInt8,b1U (.str s)=some (.cells (s.map fun c=>.int .u8 c.toNat) true,fun b=>.sl (some ⟨b,0⟩) 1 s.length s.length false):=fun s=>by rfl
  have ew:IntKind.wrap .u8 p.q0V=p.q0V:=by rw[q2X];omega
  have k0:p.cells[0]? = some (.str p.x):=by rfl
  have k1:p.cells[1]? = some (.str p.y):=by rfl
  have k4:p.cells[4]? = some (.int .i64 p.q0V):=by rfl
  have k2:ldN m3 (.ptr (some ⟨m.next,2⟩)) 2=some (.agg [.int .i64 p.rate.hi,.int .u64 p.rate.lo]):=(q1b (w3.get hq0 hq) (by simp[q0D.cells])).trans rfl
  have k5:ldN m4 (.ptr (some ⟨m.next,5⟩)) 2=some (.agg [.int .i64 p.inx.hi,.int .u64 p.inx.lo]):=(q1b (w4.get hq0 hq) (by simp[q0D.cells])).trans rfl
  have k7:ldN m5 (.ptr (some ⟨m.next,7⟩)) 2=some (.agg [.int .i64 p.q2I.hi,.int .u64 p.q2I.lo]):=(q1b (w5.get hq0 hq) (by simp[q0D.cells])).trans rfl
  simp only[b33 (H:=H50) rfl,F85,q1,p1,Nat.reduceAdd,q0f,e0,es,q0e hq0,q0e (w1.get hq0 hq),q0e (w2.get hq0 hq),q0e (w0.get c0.1 c0.2),q0e (w1.get c0.1 c0.2),q0e (w2.get c0.1 c0.2),q0e (w3.get d0 hdF),q0e (w4.get d0 hdF),q0e (w5.get d0 hdF),k0,k1,k4,k2,k5,k7,ew,e1,e2,e3,q1m,xAm,xAy,e4,e5,e6]
 ·rw[show bs++q9U p=bs++q1Z p.x++q1Z p.y++q2J p.q0V++q3g p.rate++q3g p.inx++q3g p.q2I by simp only[q9U,xAg]];exact w6.ahead
theorem a8P {p:q1v} (hs:0<=p.id/\p.id<18446744073709551616) (hw:p.bal.ok) (h:q5v m b bs F) (hc:Wc m c b F) (hd:m.get d=some (.cells [.fn (.func 77) [] [.ptr (some ⟨c,0⟩)]] false)) (hdF:d∉F) (hl:bs.length+(j1S p).length+100<=q0j) :
  ∃m',run E50 (.fn 87) [.agg p.cells,.ptr (some ⟨c,0⟩),.ptr (some ⟨d,0⟩)] m=some (.undef,m')/\q1I m m' b (bs++j1S p) F:=by
 have hl':=hl;have hv:=q0N (p.q1U.length:Int);have hv2:=q0N p.id;simp only[j1S,xla0,q1Z]at hl';have f0:Fr m (m.lay (.cells p.cells false)) []:=(Fr.refl m).lay _;have hq:m.next∉F:=fun hc=>xDp _ (h.lt _ hc)
 have hq0:=q0k m (.cells p.cells false);have c0:Wc _ c b F:=⟨f0.get hc.1 (by simp),hc.2⟩;have d0:=f0.get hd (by simp);have w0:=(h.q0m f0).self;obtain⟨m1,e1,w1⟩:=q4P hs.1 hs.2 w0 (by omega);obtain⟨m2,e2,w2⟩:=j0h p.q1U w1 (by simp only[xla0];omega);obtain⟨m3,e3,w3⟩:=z5W hw c0 w2 (by simp only[xla0,q1Z];omega);refine⟨m3,?_,?_⟩
 ·have e0:q00 (.agg p.cells)=some (.cells p.cells false,fun b=>.ptr (some ⟨b,0⟩)):=by rfl
  have es:∀s:List UInt8,b1U (.str s)=some (.cells (s.map fun c=>.int .u8 c.toNat) true,fun b=>.sl (some ⟨b,0⟩) 1 s.length s.length false):=fun s=>by rfl
  have k0:p.cells[0]? = some (.int .u64 p.id):=by rfl
  have k1:p.cells[1]? = some (.str p.q1U):=by rfl
  have k2:ldN m2 (.ptr (some ⟨m.next,2⟩)) 2=some (.agg [.int .i64 p.bal.hi,.int .u64 p.bal.lo]):=(q1b (w2.get hq0 hq) (by simp[q1v.cells])).trans rfl
  simp only[b35 (H:=H50) rfl,F87,q1,p1,q0f,e0,es,q0e hq0,q0e (w1.get hq0 hq),q0e (w0.get c0.1 c0.2),q0e (w1.get c0.1 c0.2),q0e (w2.get d0 hdF),k0,k1,k2,e1,e2,q1m,xAm,xAy,e3]
 ·rw[show bs++j1S p=bs++q5R p.id++q1Z p.q1U++q3g p.bal by simp only[j1S,xAg]];exact w3.ahead
end
end
section
theorem q1T {m:Mem} {zs cs:List AV} {n:Nat} (hz:zs.length=n) (hc:cs.length=n) (ho:cs.all AV.one=true) :
  stV (m.lay (.cells zs false)) (.ptr (some ⟨m.next,0⟩)) (.agg cs) n=some (m.lay (.cells cs false))/\ldN (m.lay (.cells cs false)) (.ptr (some ⟨m.next,0⟩)) n=some (.agg cs):=by
 constructor
 ·have h:=q1B (v:=.agg cs) (vs:=cs) (o:=0) (n:=n) (q0k m (.cells zs false)) (by simp[AV.cells,ho]) hc (by omega);rw[h,q1S];simp[<-hz]
 ·rw[q1b (q0k m (.cells cs false)) (by omega)];simp[<-hc]
section
variable {m0 m m' m1 m2:Mem} {b c d q:Nat} {bs bs2:List UInt8} {F F' S:List Nat} {α:Type} {f:α->List AV} {enc:α->List UInt8} {fv s:AV} {l:List α}
theorem j8T:(TP).underlying 24=some (.slice 153):=by kernel_rfl
theorem b0B:szT TP 153=some 4:=by kernel_rfl
theorem a1i (hmax:l.length<9223372036854775807) (hs:∀M,Fr m0 M F->q2H 4 M s (l.map f))
  (hf:∀a∈l,∀m bs,q1I m0 m b bs F->bs.length+(enc a).length+100<=q0j->∃v m',q1m (Da H50).call fv [.agg (f a)] m=some (v,m')/\q1I m0 m' b (bs++enc a) F) :
  ∀(k i:Nat) (m:Mem) (bs:List UInt8),l.length=i+k->q1I m0 m b bs F->bs.length+((l.drop i).flatMap enc).length+100<=q0j->
   ∃m',D50.gor 327680 [fv,s,.int .i64 (l.length:Int),.int .i64 (i:Int)] m=some (.undef,m')/\q1I m0 m' b (bs++(l.drop i).flatMap enc) F:=by
 intro k;induction k with
 |zero=>
  intro i m bs hi h hl;rw[xDc (by omega),xFr,xBe];refine⟨m,?_,h⟩;rw[z9z];simp only[a1d,p2,q0b,q0y,df (show ¬(i:Int)<(l.length:Int) by omega)]
 |succ k ih=>
  intro i m bs hi h hl;have hil:i<l.length:=by omega
  rw[xAk hil,xCm]at hl⊢;rw[xla0]at hl;have hfr:Fr m0 m F:=by obtain⟨_,_,h2,_⟩:=h;exact h2
  have hrow:=hs m hfr;have hone:=hrow.1 (f l[i]) (xCe (xAf hil));obtain⟨bb,o,e1,e2,e3,e4,e5⟩:=hrow.ixT j8T b0B (i:=i) (by simpa using hil);rw[xgm]at e5;obtain⟨v,m1,g1,w1⟩:=hf l[i] (xAf hil) (m.lay (.cells (f l[i]) false)) bs (h.q0m ((Fr.refl m).lay _)) (by omega);obtain⟨m2,g2,w2⟩:=ih (i+1) m1 _ (by omega) w1 (by rw[xla0];omega);refine⟨m2,?_,by rw[<-xAg];exact w2⟩;have ew:IntKind.wrap .i64 ((i:Int)+1)=((i+1:Nat):Int):=by rw[wrap_i64 (by omega) (by omega)];omega
  rw[z9z];simp only[a1d,p2,q0b,q0y,dt (show (i:Int)<(l.length:Int) by omega),a2Z (H:=H50),a7T,q1,pB,q0y,e2,e5,(q1T (m:=m) (zs:=[.str [] ,.int .i64 0 ,.int .i64 0 ,.int .u64 0]) (n:=4) rfl hone.1 hone.2).1,(q1T (m:=m) (zs:=f l[i]) (n:=4) hone.1 hone.1 hone.2).2,g1,a3a (H:=H50),a7U,q0y,ew,g2]
theorem a1j (hmax:l.length<9223372036854775807) (hs:∀M,Fr m0 M F->q2H 4 M s (l.map f))
  (hf:∀a∈l,∀m bs,q1I m0 m b bs F->bs.length+(enc a).length+100<=q0j->∃v m',q1m (Da H50).call fv [.agg (f a)] m=some (v,m')/\q1I m0 m' b (bs++enc a) F)
  (h:q1I m0 m b bs F) (hl:bs.length+(q1C enc l).length+100<=q0j) :
   ∃m',run E50 (.fn 80) [.ptr (some ⟨b,0⟩),s,fv] m=some (.undef,m')/\q1I m0 m' b (bs++q1C enc l) F:=by
 have hfr:Fr m0 m F:=by obtain⟨_,_,h2,_⟩:=h;exact h2
 have hlen:=(hs m hfr).q2e j8T;rw[xlm]at hlen;simp only[q1C,xla0]at hl;obtain⟨m1,e1,w1⟩:=q4P (n:=(l.length:Int)) (by omega) (by omega) h (by omega);obtain⟨m2,e2,w2⟩:=a1i hmax hs hf l.length 0 m1 _ (by omega) w1 (by rw[xla0,xAp];omega);have ew:IntKind.wrap .u64 (l.length:Int)=(l.length:Int):=by rw[q0i];omega
 refine⟨m2,?_,by rw[q1C,<-xAg];exact w2⟩;rw[xAz]at e2;simp only[b3X (H:=H50) rfl,F80,p1,q0y,hlen,ew,e1,e2]
theorem j8U:(TP).underlying 25=some (.slice 158):=by kernel_rfl
theorem b0C:szT TP 158=some 9:=by kernel_rfl
theorem a1k (hmax:l.length<9223372036854775807) (hs:∀M,Fr m0 M F->q2H 9 M s (l.map f))
  (hf:∀a∈l,∀m bs,q1I m0 m b bs F->bs.length+(enc a).length+100<=q0j->∃v m',q1m (Da H50).call fv [.agg (f a)] m=some (v,m')/\q1I m0 m' b (bs++enc a) F) :
  ∀(k i:Nat) (m:Mem) (bs:List UInt8),l.length=i+k->q1I m0 m b bs F->bs.length+((l.drop i).flatMap enc).length+100<=q0j->
   ∃m',D50.gor 344064 [fv,s,.int .i64 (l.length:Int),.int .i64 (i:Int)] m=some (.undef,m')/\q1I m0 m' b (bs++(l.drop i).flatMap enc) F:=by
 intro k;induction k with
 |zero=>
  intro i m bs hi h hl;rw[xDc (by omega),xFr,xBe];refine⟨m,?_,h⟩;rw[z9A];simp only[a1e,p2,q0b,q0y,df (show ¬(i:Int)<(l.length:Int) by omega)]
 |succ k ih=>
  intro i m bs hi h hl;have hil:i<l.length:=by omega
  rw[xAk hil,xCm]at hl⊢;rw[xla0]at hl;have hfr:Fr m0 m F:=by obtain⟨_,_,h2,_⟩:=h;exact h2
  have hrow:=hs m hfr;have hone:=hrow.1 (f l[i]) (xCe (xAf hil));obtain⟨bb,o,e1,e2,e3,e4,e5⟩:=hrow.ixT j8U b0C (i:=i) (by simpa using hil);rw[xgm]at e5;obtain⟨v,m1,g1,w1⟩:=hf l[i] (xAf hil) (m.lay (.cells (f l[i]) false)) bs (h.q0m ((Fr.refl m).lay _)) (by omega);obtain⟨m2,g2,w2⟩:=ih (i+1) m1 _ (by omega) w1 (by rw[xla0];omega);refine⟨m2,?_,by rw[<-xAg];exact w2⟩;have ew:IntKind.wrap .i64 ((i:Int)+1)=((i+1:Nat):Int):=by rw[wrap_i64 (by omega) (by omega)];omega
  rw[z9A];simp only[a1e,p2,q0b,q0y,dt (show (i:Int)<(l.length:Int) by omega),a3b (H:=H50),a7V,q1,pB,q0y,e2,e5,(q1T (m:=m) (zs:=[.str [] ,.str [] ,.int .i64 0 ,.int .u64 0 ,.int .i64 0 ,.int .i64 0 ,.int .u64 0 ,.int .i64 0 ,.int .u64 0]) (n:=9) rfl hone.1 hone.2).1,(q1T (m:=m) (zs:=f l[i]) (n:=9) hone.1 hone.1 hone.2).2,g1,a3c (H:=H50),a7W,q0y,ew,g2]
theorem a1l (hmax:l.length<9223372036854775807) (hs:∀M,Fr m0 M F->q2H 9 M s (l.map f))
  (hf:∀a∈l,∀m bs,q1I m0 m b bs F->bs.length+(enc a).length+100<=q0j->∃v m',q1m (Da H50).call fv [.agg (f a)] m=some (v,m')/\q1I m0 m' b (bs++enc a) F)
  (h:q1I m0 m b bs F) (hl:bs.length+(q1C enc l).length+100<=q0j) :
   ∃m',run E50 (.fn 84) [.ptr (some ⟨b,0⟩),s,fv] m=some (.undef,m')/\q1I m0 m' b (bs++q1C enc l) F:=by
 have hfr:Fr m0 m F:=by obtain⟨_,_,h2,_⟩:=h;exact h2
 have hlen:=(hs m hfr).q2e j8U;rw[xlm]at hlen;simp only[q1C,xla0]at hl;obtain⟨m1,e1,w1⟩:=q4P (n:=(l.length:Int)) (by omega) (by omega) h (by omega);obtain⟨m2,e2,w2⟩:=a1k hmax hs hf l.length 0 m1 _ (by omega) w1 (by rw[xla0,xAp];omega);have ew:IntKind.wrap .u64 (l.length:Int)=(l.length:Int):=by rw[q0i];omega
 refine⟨m2,?_,by rw[q1C,<-xAg];exact w2⟩;rw[xAz]at e2;simp only[b31 (H:=H50) rfl,F84,p1,q0y,hlen,ew,e1,e2]
theorem j8V:(TP).underlying 26=some (.slice 162):=by kernel_rfl
theorem b0D:szT TP 162=some 4:=by kernel_rfl
theorem a1m (hmax:l.length<9223372036854775807) (hs:∀M,Fr m0 M F->q2H 4 M s (l.map f))
  (hf:∀a∈l,∀m bs,q1I m0 m b bs F->bs.length+(enc a).length+100<=q0j->∃v m',q1m (Da H50).call fv [.agg (f a)] m=some (v,m')/\q1I m0 m' b (bs++enc a) F) :
  ∀(k i:Nat) (m:Mem) (bs:List UInt8),l.length=i+k->q1I m0 m b bs F->bs.length+((l.drop i).flatMap enc).length+100<=q0j->
   ∃m',D50.gor 352256 [fv,s,.int .i64 (l.length:Int),.int .i64 (i:Int)] m=some (.undef,m')/\q1I m0 m' b (bs++(l.drop i).flatMap enc) F:=by
 intro k;induction k with
 |zero=>
  intro i m bs hi h hl;rw[xDc (by omega),xFr,xBe];refine⟨m,?_,h⟩;rw[z9B];simp only[a1f,p2,q0b,q0y,df (show ¬(i:Int)<(l.length:Int) by omega)]
 |succ k ih=>
  intro i m bs hi h hl;have hil:i<l.length:=by omega
  rw[xAk hil,xCm]at hl⊢;rw[xla0]at hl;have hfr:Fr m0 m F:=by obtain⟨_,_,h2,_⟩:=h;exact h2
  have hrow:=hs m hfr;have hone:=hrow.1 (f l[i]) (xCe (xAf hil));obtain⟨bb,o,e1,e2,e3,e4,e5⟩:=hrow.ixT j8V b0D (i:=i) (by simpa using hil);rw[xgm]at e5;obtain⟨v,m1,g1,w1⟩:=hf l[i] (xAf hil) (m.lay (.cells (f l[i]) false)) bs (h.q0m ((Fr.refl m).lay _)) (by omega);obtain⟨m2,g2,w2⟩:=ih (i+1) m1 _ (by omega) w1 (by rw[xla0];omega);refine⟨m2,?_,by rw[<-xAg];exact w2⟩;have ew:IntKind.wrap .i64 ((i:Int)+1)=((i+1:Nat):Int):=by rw[wrap_i64 (by omega) (by omega)];omega
  rw[z9B];simp only[a1f,p2,q0b,q0y,dt (show (i:Int)<(l.length:Int) by omega),a3d (H:=H50),a7X,q1,pB,q0y,e2,e5,(q1T (m:=m) (zs:=[.int .u64 0 ,.str [] ,.int .i64 0 ,.int .u64 0]) (n:=4) rfl hone.1 hone.2).1,(q1T (m:=m) (zs:=f l[i]) (n:=4) hone.1 hone.1 hone.2).2,g1,a3e (H:=H50),a7Y,q0y,ew,g2]
theorem a1n (hmax:l.length<9223372036854775807) (hs:∀M,Fr m0 M F->q2H 4 M s (l.map f))
  (hf:∀a∈l,∀m bs,q1I m0 m b bs F->bs.length+(enc a).length+100<=q0j->∃v m',q1m (Da H50).call fv [.agg (f a)] m=some (v,m')/\q1I m0 m' b (bs++enc a) F)
  (h:q1I m0 m b bs F) (hl:bs.length+(q1C enc l).length+100<=q0j) :
   ∃m',run E50 (.fn 86) [.ptr (some ⟨b,0⟩),s,fv] m=some (.undef,m')/\q1I m0 m' b (bs++q1C enc l) F:=by
 have hfr:Fr m0 m F:=by obtain⟨_,_,h2,_⟩:=h;exact h2
 have hlen:=(hs m hfr).q2e j8V;rw[xlm]at hlen;simp only[q1C,xla0]at hl;obtain⟨m1,e1,w1⟩:=q4P (n:=(l.length:Int)) (by omega) (by omega) h (by omega);obtain⟨m2,e2,w2⟩:=a1m hmax hs hf l.length 0 m1 _ (by omega) w1 (by rw[xla0,xAp];omega);have ew:IntKind.wrap .u64 (l.length:Int)=(l.length:Int):=by rw[q0i];omega
 refine⟨m2,?_,by rw[q1C,<-xAg];exact w2⟩;rw[xAz]at e2;simp only[b34 (H:=H50) rfl,F86,p1,q0y,hlen,ew,e1,e2]
theorem q2b:(TP).underlying 23=some (.slice 141):=by kernel_rfl
theorem q7t:szT TP 141=some 4:=by kernel_rfl
theorem a1o (hmax:l.length<9223372036854775807) (hs:∀M,Fr m0 M F->q2H 4 M s (l.map f))
  (hf:∀a∈l,∀m bs,q1I m0 m b bs F->bs.length+(enc a).length+100<=q0j->∃v m',q1m (Da H50).call fv [.agg (f a)] m=some (v,m')/\q1I m0 m' b (bs++enc a) F) :
  ∀(k i:Nat) (m:Mem) (bs:List UInt8),l.length=i+k->q1I m0 m b bs F->bs.length+((l.drop i).flatMap enc).length+100<=q0j->
   ∃m',D50.gor 360448 [fv,s,.int .i64 (l.length:Int),.int .i64 (i:Int)] m=some (.undef,m')/\q1I m0 m' b (bs++(l.drop i).flatMap enc) F:=by
 intro k;induction k with
 |zero=>
  intro i m bs hi h hl;rw[xDc (by omega),xFr,xBe];refine⟨m,?_,h⟩;rw[z9C];simp only[a1g,p2,q0b,q0y,df (show ¬(i:Int)<(l.length:Int) by omega)]
 |succ k ih=>
  intro i m bs hi h hl;have hil:i<l.length:=by omega
  rw[xAk hil,xCm]at hl⊢;rw[xla0]at hl;have hfr:Fr m0 m F:=by obtain⟨_,_,h2,_⟩:=h;exact h2
  have hrow:=hs m hfr;have hone:=hrow.1 (f l[i]) (xCe (xAf hil));obtain⟨bb,o,e1,e2,e3,e4,e5⟩:=hrow.ixT q2b q7t (i:=i) (by simpa using hil);rw[xgm]at e5;obtain⟨v,m1,g1,w1⟩:=hf l[i] (xAf hil) (m.lay (.cells (f l[i]) false)) bs (h.q0m ((Fr.refl m).lay _)) (by omega);obtain⟨m2,g2,w2⟩:=ih (i+1) m1 _ (by omega) w1 (by rw[xla0];omega);refine⟨m2,?_,by rw[<-xAg];exact w2⟩;have ew:IntKind.wrap .i64 ((i:Int)+1)=((i+1:Nat):Int):=by rw[wrap_i64 (by omega) (by omega)];omega
  rw[z9C];simp only[a1g,p2,q0b,q0y,dt (show (i:Int)<(l.length:Int) by omega),a3f (H:=H50),a7Z,q1,pB,q0y,e2,e5,(q1T (m:=m) (zs:=[.int .u64 0 ,.int .u64 0 ,.int .u64 0 ,.sl none 0 0 0 true]) (n:=4) rfl hone.1 hone.2).1,(q1T (m:=m) (zs:=f l[i]) (n:=4) hone.1 hone.1 hone.2).2,g1,a3g (H:=H50),a8a,q0y,ew,g2]
theorem a1p (hmax:l.length<9223372036854775807) (hs:∀M,Fr m0 M F->q2H 4 M s (l.map f))
  (hf:∀a∈l,∀m bs,q1I m0 m b bs F->bs.length+(enc a).length+100<=q0j->∃v m',q1m (Da H50).call fv [.agg (f a)] m=some (v,m')/\q1I m0 m' b (bs++enc a) F)
  (h:q1I m0 m b bs F) (hl:bs.length+(q1C enc l).length+100<=q0j) :
   ∃m',run E50 (.fn 88) [.ptr (some ⟨b,0⟩),s,fv] m=some (.undef,m')/\q1I m0 m' b (bs++q1C enc l) F:=by
 have hfr:Fr m0 m F:=by obtain⟨_,_,h2,_⟩:=h;exact h2
 have hlen:=(hs m hfr).q2e q2b;rw[xlm]at hlen;simp only[q1C,xla0]at hl;obtain⟨m1,e1,w1⟩:=q4P (n:=(l.length:Int)) (by omega) (by omega) h (by omega);obtain⟨m2,e2,w2⟩:=a1o hmax hs hf l.length 0 m1 _ (by omega) w1 (by rw[xla0,xAp];omega);have ew:IntKind.wrap .u64 (l.length:Int)=(l.length:Int):=by rw[q0i];omega
 refine⟨m2,?_,by rw[q1C,<-xAg];exact w2⟩;rw[xAz]at e2;simp only[b36 (H:=H50) rfl,F88,p1,q0y,hlen,ew,e1,e2]
theorem q4c:(TP).underlying 139=some (.slice 143):=by kernel_rfl
theorem z1Y:szT TP 143=some 6:=by kernel_rfl
theorem a1q (hmax:l.length<9223372036854775807) (hs:∀M,Fr m0 M F->q2H 6 M s (l.map f))
  (hf:∀a∈l,∀m bs,q1I m0 m b bs F->bs.length+(enc a).length+100<=q0j->∃v m',q1m (Da H50).call fv [.agg (f a)] m=some (v,m')/\q1I m0 m' b (bs++enc a) F) :
  ∀(k i:Nat) (m:Mem) (bs:List UInt8),l.length=i+k->q1I m0 m b bs F->bs.length+((l.drop i).flatMap enc).length+100<=q0j->
   ∃m',D50.gor 368640 [fv,s,.int .i64 (l.length:Int),.int .i64 (i:Int)] m=some (.undef,m')/\q1I m0 m' b (bs++(l.drop i).flatMap enc) F:=by
 intro k;induction k with
 |zero=>
  intro i m bs hi h hl;rw[xDc (by omega),xFr,xBe];refine⟨m,?_,h⟩;rw[z9D];simp only[a1h,p2,q0b,q0y,df (show ¬(i:Int)<(l.length:Int) by omega)]
 |succ k ih=>
  intro i m bs hi h hl;have hil:i<l.length:=by omega
  rw[xAk hil,xCm]at hl⊢;rw[xla0]at hl;have hfr:Fr m0 m F:=by obtain⟨_,_,h2,_⟩:=h;exact h2
  have hrow:=hs m hfr;have hone:=hrow.1 (f l[i]) (xCe (xAf hil));obtain⟨bb,o,e1,e2,e3,e4,e5⟩:=hrow.ixT q4c z1Y (i:=i) (by simpa using hil);rw[xgm]at e5;obtain⟨v,m1,g1,w1⟩:=hf l[i] (xAf hil) (m.lay (.cells (f l[i]) false)) bs (h.q0m ((Fr.refl m).lay _)) (by omega);obtain⟨m2,g2,w2⟩:=ih (i+1) m1 _ (by omega) w1 (by rw[xla0];omega);refine⟨m2,?_,by rw[<-xAg];exact w2⟩;have ew:IntKind.wrap .i64 ((i:Int)+1)=((i+1:Nat):Int):=by rw[wrap_i64 (by omega) (by omega)];omega
  rw[z9D];simp only[a1h,p2,q0b,q0y,dt (show (i:Int)<(l.length:Int) by omega),a3h (H:=H50),a8b,q1,pB,q0y,e2,e5,(q1T (m:=m) (zs:=[.int .u64 0 ,.int .i64 0 ,.int .u64 0 ,.int .i64 0 ,.int .u64 0 ,.int .i64 0]) (n:=6) rfl hone.1 hone.2).1,(q1T (m:=m) (zs:=f l[i]) (n:=6) hone.1 hone.1 hone.2).2,g1,a3i (H:=H50),a8c,q0y,ew,g2]
theorem a1r (hmax:l.length<9223372036854775807) (hs:∀M,Fr m0 M F->q2H 6 M s (l.map f))
  (hf:∀a∈l,∀m bs,q1I m0 m b bs F->bs.length+(enc a).length+100<=q0j->∃v m',q1m (Da H50).call fv [.agg (f a)] m=some (v,m')/\q1I m0 m' b (bs++enc a) F)
  (h:q1I m0 m b bs F) (hl:bs.length+(q1C enc l).length+100<=q0j) :
   ∃m',run E50 (.fn 90) [.ptr (some ⟨b,0⟩),s,fv] m=some (.undef,m')/\q1I m0 m' b (bs++q1C enc l) F:=by
 have hfr:Fr m0 m F:=by obtain⟨_,_,h2,_⟩:=h;exact h2
 have hlen:=(hs m hfr).q2e q4c;rw[xlm]at hlen;simp only[q1C,xla0]at hl;obtain⟨m1,e1,w1⟩:=q4P (n:=(l.length:Int)) (by omega) (by omega) h (by omega);obtain⟨m2,e2,w2⟩:=a1q hmax hs hf l.length 0 m1 _ (by omega) w1 (by rw[xla0,xAp];omega);have ew:IntKind.wrap .u64 (l.length:Int)=(l.length:Int):=by rw[q0i];omega
 refine⟨m2,?_,by rw[q1C,<-xAg];exact w2⟩;rw[xAz]at e2;simp only[b38 (H:=H50) rfl,F90,p1,q0y,hlen,ew,e1,e2]
end
end
section
structure Bx (m0 m:Mem) (a b rc p:Nat) (e:Int) (B:List UInt8) (st:RS) (rb:Option Nat) (cs:List AV):Prop where
 rd:q2s m b B st rb
 ir:q6k m a b e
 c:m.get rc=some (.cells [.ptr (some ⟨a,0⟩)] false)
 bx:m.get p=some (.cells cs false)
 fr:Fr m0 m [b]
 np:m0.next<=p
 ob:b<m0.next
 oc:rc<m0.next
 or:∀c,rb=some c->c<m0.next
 oa:a<m0.next
 cb:rc≠b
section
variable {m0 m m':Mem} {a b rc p:Nat} {e:Int} {B:List UInt8} {st st':RS} {rb:Option Nat} {cs ds:List AV}
theorem Bx.call (h:Bx m0 m a b rc p e B st rb cs) (hr:q2s m' b B st' rb) (hf:Fr m m' [b]):Bx m0 m' a b rc p e B st' rb cs:=
 ⟨hr,h.ir.to hf,hf.get h.c (by simpa using h.cb),hf.get h.bx (by have:=h.np;have:=h.ob;simp;omega),h.fr.step hf (fun c hc=>.inl hc),h.np,h.ob,h.oc,h.or,h.oa,h.cb⟩
theorem Bx.new (hr:q2s m b B st rb) (hi:q6k m a b e) (hc:m.get rc=some (.cells [.ptr (some ⟨a,0⟩)] false)) (hf:Fr m0 m [b]) (ob:b<m0.next) (oc:rc<m0.next) (or:∀c,rb=some c->c<m0.next) (oa:a<m0.next) (cb:rc≠b) (cs:List AV) :
  Bx m0 (m.lay (.cells cs false)) a b rc m.next e B st rb cs:=by
 have f:Fr m (m.lay (.cells cs false)) []:=(Fr.refl m).lay _;exact⟨hr.q0m f,⟨f.get hi.1 (by simp),hi.2⟩,f.get hc (by simp),q0k _ _,hf.step0 f,hf.next,ob,oc,or,oa,cb⟩
theorem Bx.put (h:Bx m0 m a b rc p e B st rb cs) {v:AV} {vs:List AV} {o n:Nat} (hv:v.cells=some vs) (hn:vs.length=n) (ho:o+n<=cs.length) (hd:cs.take o++vs++cs.drop (o+n)=ds) :
  ∃m',stV m (.ptr (some ⟨p,o⟩)) v n=some m'/\Bx m0 m' a b rc p e B st rb ds:=by
 have hp:=h.np;have hpb:b≠p:=by have:=h.ob;omega
 have hf:Fr m (m.put p (some (.cells ds false))) [p]:=Fr.put _ _ _;refine⟨m.put p (some (.cells ds false)),by rw[q1B h.bx hv hn ho,hd],h.rd.keep _ hpb (fun hc=>by have:=h.or _ hc;omega),⟨hf.get h.ir.1 (by have:=h.oa;simp;omega),h.ir.2⟩,hf.get h.c (by have:=h.oc;simp;omega),q0x h.bx,h.fr.step hf (fun c hc=>by simp at hc;exact .inr (by omega)),hp,h.ob,h.oc,h.or,h.oa,h.cb⟩
theorem Bx.name (h:Bx m0 m a b rc p e B st rb cs) (hmx:B.length<=q0j):∃m',run E50 (.fn 164) [.ptr (some ⟨a,0⟩)] m=some (.str (q1g B 3 st).1,m')/\Bx m0 m' a b rc p e B (q1g B 3 st).2 rb cs:=by
 obtain⟨m',e1,r1,f1⟩:=z11 h.ir h.rd hmx;exact⟨m',e1,h.call r1 f1⟩
theorem Bx.number (h:Bx m0 m a b rc p e B st rb cs):∃m',run E50 (.fn 166) [.ptr (some ⟨a,0⟩)] m=some (.agg (q3e B st).1.cells,m')/\Bx m0 m' a b rc p e B (q3e B st).2 rb cs:=by
 obtain⟨m',e1,r1,f1⟩:=j0Z h.ir h.rd;exact⟨m',e1,h.call r1 f1⟩
theorem Bx.byte (h:Bx m0 m a b rc p e B st rb cs) (most:Int):∃m',run E50 (.fn 165) [.ptr (some ⟨b,0⟩),.int .u8 most] m=some (.int .u8 (q1L B most st).1,m')/\Bx m0 m' a b rc p e B (q1L B most st).2 rb cs:=by
 obtain⟨m',e1,r1,f1⟩:=q8r (most:=most) h.rd;exact⟨m',e1,h.call r1 f1⟩
theorem Bx.num (h:Bx m0 m a b rc p e B st rb cs) (most:Int):∃m',run E50 (.fn 168) [.ptr (some ⟨b,0⟩),.int .u64 most] m=some (.int .u64 (q1a B most st).1,m')/\Bx m0 m' a b rc p e B (q1a B most st).2 rb cs:=by
 obtain⟨m',e1,r1,f1⟩:=q2T (most:=most) h.rd;exact⟨m',e1,h.call r1 f1⟩
theorem q8p {n w q j:Nat} {qs:List AV} {s:AV} {l:List (List AV)} {r:Option Nat} (hn:0<n) (hq:m.get q=some (.cells qs false)) (hj:j<qs.length) (ht:q08 n m s l r) (hr:r≠some q) (hl:cs.length=n) (ho:cs.all AV.one=true) (hb:(l.length+1)*w<=q0j) :
  ∃s' m1 m2,q0H n w s (.sl (some ⟨m.next,0⟩) n 1 1 true) (m.lay (.cells cs false))=some (s',m1)/\stV m1 (.ptr (some ⟨q,j⟩)) s' 1=some m2/\m2.get q=some (.cells (qs.set j s') false)/\q08 n m2 s' (l++[cs]) (some (m.next+1))/\Fr m m2 (q::r.toList):=by
 have f0:Fr m (m.lay (.cells cs false)) []:=(Fr.refl m).lay _;obtain⟨s',m1,e1,t1,n1,f1⟩:=q4s (w:=w) hn (ht.frame f0 (by simp)) (q0k m (.cells cs false)) hl ho hb;have hlt:=Mem.q0u hq;have hqr:q∉r.toList:=by cases r with
  |none=>simp
  |some c=>simp;intro e;exact hr (by rw[e])
 have g1:=f1.get (f0.get hq (by simp)) hqr;have es:stV m1 (.ptr (some ⟨q,j⟩)) s' 1=some (m1.put q (some (.cells (qs.set j s') false))):=by
  rw[q1B (v:=s') (vs:=[s']) (o:=j) (n:=1) g1 (q3k t1.one) rfl (by omega)];rw[List.set_eq_take_append_cons_drop,xAb hj];simp
 have fp:Fr m1 (m1.put q (some (.cells (qs.set j s') false))) [q]:=Fr.put _ _ _;rw[show (m.lay (.cells cs false)).next=m.next+1 by simp]at t1
 exact⟨s',m1,_,e1,es,q0x g1,t1.frame fp (fun c hc=>by cases hc;simp;omega),((f0.any _).step f1 (fun c hc=>.inl (xBa _ hc))).step fp (fun c hc=>.inl (by simp at hc;simp[hc]))⟩
end
section
variable {m:Mem} {a b rc q:Nat} {B:List UInt8} {st:RS} {rb:Option Nat} {qs:List AV} {s:AV} {r:Option Nat}
structure Rds (m:Mem) (a b rc q j n:Nat) (B:List UInt8) (st:RS) (rb:Option Nat) (qs:List AV) (s:AV) (l:List (List AV)) (r:Option Nat):Prop where
 rd:q2s m b B st rb
 ir:q6k m a b 0
 c:m.get rc=some (.cells [.ptr (some ⟨a,0⟩)] false)
 cb:rc≠b
 gq:m.get q=some (.cells qs false)
 gj:qs[j]? = some s
 t:q08 n m s l r
 rq:r≠some q
 br:some b≠r
 bq:b≠q
 cq:rc≠q/\some rc≠r
 rr:rb≠some q/\∀c,rb=some c->r≠some c
theorem Rds.bx {j n:Nat} {l:List (List AV)} (h:Rds m a b rc q j n B st rb qs s l r) {m1:Mem} {st':RS} (hr:q2s m1 b B st' rb) (hf:Fr m m1 [b]) (cs:List AV):Bx m (m1.lay (.cells cs false)) a b rc m1.next 0 B st' rb cs:=
 .new hr (h.ir.to hf) (hf.get h.c (by simpa using h.cb)) hf h.rd.blt (Mem.q0u h.c) h.rd.rlt (Mem.q0u h.ir.1) h.cb cs
def Rdd (m m':Mem) (b q j n:Nat) (B:List UInt8) (st:RS) (rb:Option Nat) (qs:List AV) (l:List (List AV)) (r:Option Nat):Prop:=
 ∃s' r',q2s m' b B st rb/\m'.get q=some (.cells (qs.set j s') false)/\q08 n m' s' l r'/\Fr m m' (b::q::r.toList)/\∀c,r'=some c->m.next<=c
theorem Rds.fin {j n w p:Nat} {l:List (List AV)} {st':RS} {m1:Mem} {cs:List AV} (h:Rds m a b rc q j n B st rb qs s l r) (hn:0<n) (hw:(l.length+1)*w<=q0j) (hx:Bx m m1 a b rc p 0 B st' rb cs) (hl:cs.length=n) (ho:cs.all AV.one=true) :
  ∃s' m2 m3,ld1 m1 (.ptr (some ⟨q,j⟩))=some s/\ldN m1 (.ptr (some ⟨p,0⟩)) n=some (.agg cs)/\q0H n w s (.sl (some ⟨m1.next,0⟩) n 1 1 true) (m1.lay (.cells cs false))=some (s',m2)/\stV m2 (.ptr (some ⟨q,j⟩)) s' 1=some m3/\Rdd m m3 b q j n B st' rb qs (l++[cs]) r:=by
 have hqb:q∉[b]:=by simpa using fun e=>h.bq e.symm
 have hj:j<qs.length:=(xgi.1 h.gj).1;have hr1:∀c,r=some c->c∉[b]:=fun c hc=>by simp;rintro rfl;exact h.br hc.symm
 have gq:=hx.fr.get h.gq hqb;obtain⟨s',m2,m3,e1,e2,g3,t3,f3⟩:=q8p (w:=w) hn gq hj (h.t.frame hx.fr hr1) h.rq hl ho hw;have f4:Fr m m3 (b::q::r.toList):=(hx.fr.mono (by simp +contextual)).step f3 (fun c hc=>.inl (xBa _ hc))
 refine⟨s',m2,m3,(q0e gq).trans h.gj,(q1b hx.bx (by omega)).trans (by simp[<-hl]),e1,e2,s',_,?_,g3,t3,f4,fun c hc=>by cases hc;have:=hx.fr.next;omega⟩
 refine hx.rd.frame f3 (by
  simp only[xmk0,xAw];rintro(h1|h1)
  ·exact h.bq h1
  ·exact h.br (by rw[h1])) (fun c hc=>by
  simp only[xmk0,xAw];rintro(h1|h1)
  ·exact h.rr.1 (by rw[hc,h1])
  ·exact h.rr.2 c hc h1)
theorem a1E {l:List q0v} (h:Rds m a b rc q 0 4 B st rb qs s (l.map q0v.cells) r) (hmx:B.length<=q0j) (hw:(l.length+1)*40<=q0j) :
  ∃m',run E50 (.fn 163) [.ptr (some ⟨rc,0⟩),.ptr (some ⟨q,0⟩)] m=some (.undef,m')/\Rdd m m' b q 0 4 B (q53 B st).2 rb qs ((l++[(q53 B st).1]).map q0v.cells) r:=by
 obtain⟨m1,e1,r1,f1⟩:=z11 h.ir h.rd hmx;have b1:=h.bx r1 f1 [.str (q1g B 3 st).1,.int .i64 0,.int .i64 0,.int .u64 0];obtain⟨m2,e2,b2⟩:=b1.byte 18;obtain⟨y,hy⟩:∃y,y=q1L B 18 (q1g B 3 st).2:=⟨_,rfl⟩;have hkr:=q2S (B:=B) (st:=(q1g B 3 st).2) (most:=18);rw[<-hy]at e2 b2 hkr;have wk:IntKind.wrap .i64 y.1=y.1:=by rw[wrap_i64 (by omega) (by omega)]
 obtain⟨m3,e3,b3⟩:=b2.put (v:=.int .i64 y.1) (o:=1) (n:=1) rfl rfl (by simp) rfl;obtain⟨m4,e4,b4⟩:=b3.number;obtain⟨m5,e5,b5⟩:=b4.put (v:=.agg (q3e B y.2).1.cells) (o:=2) (n:=2) (ds:=(q53 B st).1.cells) rfl rfl (by simp) (by subst hy;rfl);obtain⟨s',m6,m7,k1,k2,k3,k4,k5⟩:=h.fin (w:=40) (by omega) (by simpa using hw) b5 rfl rfl;have hst:(q53 B st).2=(q3e B y.2).2:=by subst hy;rfl
 rw[<-hst]at k5;refine⟨m7,?_,by simpa using k5⟩;have eb:=(q1T (m:=m1) (zs:=[.str [],.int .i64 0,.int .i64 0,.int .u64 0]) (cs:=[.str (q1g B 3 st).1,.int .i64 0,.int .i64 0,.int .u64 0]) (n:=4) rfl rfl rfl).1;have ec:=q40 (n:=4) (zs:=[.str [],.int .i64 0,.int .i64 0,.int .u64 0]) (cs:=(q53 B st).1.cells) rfl rfl rfl;simp only[a9n (H:=H50) rfl,b6p,q1,p1,pB,apE,q0p,AV.cells,Nat.reduceAdd,Nat.reduceLeDiff,nnA,q1M,q0e h.c,e1,eb,q0e b1.c,q0e b1.ir.1,e2,wk,e3,q0e b3.c,e4,e5,k1,k2,ec,k3,k4]
theorem a1F {l:List q0D} (h:Rds m a b rc q 1 9 B st rb qs s (l.map q0D.cells) r) (hmx:B.length<=q0j) (hw:(l.length+1)*88<=q0j) :
  ∃m',run E50 (.fn 167) [.ptr (some ⟨rc,0⟩),.ptr (some ⟨q,0⟩)] m=some (.undef,m')/\Rdd m m' b q 1 9 B (z2p B st).2 rb qs ((l++[(z2p B st).1]).map q0D.cells) r:=by
 obtain⟨m1,e1,r1,f1⟩:=z11 h.ir h.rd hmx;have b1:=h.bx r1 f1 [.str (q1g B 3 st).1,.str [],.int .i64 0,.int .u64 0,.int .i64 0,.int .i64 0,.int .u64 0,.int .i64 0,.int .u64 0];obtain⟨m2,e2,b2⟩:=b1.name hmx;obtain⟨y,hy⟩:∃y,y=q1g B 3 (q1g B 3 st).2:=⟨_,rfl⟩;rw[<-hy]at e2 b2;obtain⟨m3,e3,b3⟩:=b2.put (v:=.str y.1) (o:=1) (n:=1) rfl rfl (by simp) rfl;obtain⟨m4,e4,b4⟩:=b3.byte 18;have hkr:=q2S (B:=B) (st:=y.2) (most:=18)
 obtain⟨k,hk⟩:∃k,k=q1L B 18 y.2:=⟨_,rfl⟩;rw[<-hk]at e4 b4 hkr;have wk:IntKind.wrap .i64 k.1=k.1:=by rw[wrap_i64 (by omega) (by omega)]
 obtain⟨m5,e5,b5⟩:=b4.put (v:=.int .i64 k.1) (o:=4) (n:=1) rfl rfl (by simp) rfl;obtain⟨m6,e6,b6⟩:=b5.number;obtain⟨u,hu⟩:∃u,u=q3e B k.2:=⟨_,rfl⟩;rw[<-hu]at e6 b6;obtain⟨m7,e7,b7⟩:=b6.put (v:=.agg u.1.cells) (o:=2) (n:=2) rfl rfl (by simp) rfl;obtain⟨m8,e8,b8⟩:=b7.number;obtain⟨v,hv⟩:∃v,v=q3e B u.2:=⟨_,rfl⟩;rw[<-hv]at e8 b8;obtain⟨m9,e9,b9⟩:=b8.put (v:=.agg v.1.cells) (o:=5) (n:=2) rfl rfl (by simp[Wd.cells]) rfl
 obtain⟨m10,e10,b10⟩:=b9.number;obtain⟨m11,e11,b11⟩:=b10.put (v:=.agg (q3e B v.2).1.cells) (o:=7) (n:=2) (ds:=(z2p B st).1.cells) rfl rfl (by simp[Wd.cells]) (by subst hv;subst hu;subst hk;subst hy;rfl);obtain⟨s',m12,m13,k1,k2,k3,k4,k5⟩:=h.fin (w:=88) (by omega) (by simpa using hw) b11 rfl rfl;have hst:(z2p B st).2=(q3e B v.2).2:=by subst hv;subst hu;subst hk;subst hy;rfl
 rw[<-hst]at k5;refine⟨m13,?_,by simpa using k5⟩;have eb:=(q1T (m:=m1) (zs:=[.str [],.str [],.int .i64 0,.int .u64 0,.int .i64 0,.int .i64 0,.int .u64 0,.int .i64 0,.int .u64 0]) (cs:=[.str (q1g B 3 st).1,.str [],.int .i64 0,.int .u64 0,.int .i64 0,.int .i64 0,.int .u64 0,.int .i64 0,.int .u64 0]) (n:=9) rfl rfl rfl).1;have ec:=q40 (n:=9) (zs:=[.str [],.str [],.int .i64 0,.int .u64 0,.int .i64 0,.int .i64 0,.int .u64 0,.int .i64 0,.int .u64 0]) (cs:=(z2p B st).1.cells) rfl rfl rfl
 simp only[a9q (H:=H50) rfl,b6s,q1,p1,pB,apE,q0p,AV.cells,Nat.reduceAdd,Nat.reduceLeDiff,nnA,q1M,q0e h.c,e1,eb,q0e b1.c,e2,e3,q0e b3.c,q0e b3.ir.1,e4,wk,e5,q0e b5.c,e6,e7,q0e b7.c,e8,e9,q0e b9.c,e10,e11,k1,k2,ec,k3,k4]
theorem a1G {l:List q1v} (h:Rds m a b rc q 2 4 B st rb qs s (l.map q1v.cells) r) (hmx:B.length<=q0j) (hw:(l.length+1)*40<=q0j) :
  ∃m',run E50 (.fn 169) [.ptr (some ⟨rc,0⟩),.ptr (some ⟨q,0⟩)] m=some (.undef,m')/\Rdd m m' b q 2 4 B (a3Z B st).2 rb qs ((l++[(a3Z B st).1]).map q1v.cells) r:=by
 obtain⟨m1,e1,r1,f1⟩:=q2T (most:=q0M) h.rd;have b1:=h.bx r1 f1 [.int .u64 (q1a B q0M st).1,.str [],.int .i64 0,.int .u64 0];obtain⟨m2,e2,b2⟩:=b1.name hmx;obtain⟨y,hy⟩:∃y,y=q1g B 3 (q1a B q0M st).2:=⟨_,rfl⟩;rw[<-hy]at e2 b2;obtain⟨m3,e3,b3⟩:=b2.put (v:=.str y.1) (o:=1) (n:=1) rfl rfl (by simp) rfl;obtain⟨m4,e4,b4⟩:=b3.number;obtain⟨m5,e5,b5⟩:=b4.put (v:=.agg (q3e B y.2).1.cells) (o:=2) (n:=2) (ds:=(a3Z B st).1.cells) rfl rfl (by simp) (by subst hy;rfl)
 obtain⟨s',m6,m7,k1,k2,k3,k4,k5⟩:=h.fin (w:=40) (by omega) (by simpa using hw) b5 rfl rfl;have hst:(a3Z B st).2=(q3e B y.2).2:=by subst hy;rfl
 rw[<-hst]at k5;refine⟨m7,?_,by simpa using k5⟩;have eb:=(q1T (m:=m1) (zs:=[.int .u64 0,.str [],.int .i64 0,.int .u64 0]) (cs:=[.int .u64 (q1a B q0M st).1,.str [],.int .i64 0,.int .u64 0]) (n:=4) rfl rfl rfl).1;have ec:=q40 (n:=4) (zs:=[.int .u64 0,.str [],.int .i64 0,.int .u64 0]) (cs:=(a3Z B st).1.cells) rfl rfl rfl;simp only[a9r (H:=H50) rfl,b6t,q1,p1,pB,apE,q0p,AV.cells,Nat.reduceAdd,Nat.reduceLeDiff,nnA,q1M,q0e h.c,q0e h.ir.1,e1,eb,q0e b1.c,e2,e3,q0e b3.c,e4,e5,k1,k2,ec,k3,k4]
end
end
section
section
variable {m:Mem} {a b rc q:Nat} {B:List UInt8} {st:RS} {rb:Option Nat} {qs:List AV} {s:AV} {r:Option Nat}
theorem z2s {α:Type} {f:α->List AV} {g:RS->α×RS} {fv:AV} {j n:Nat} {most:Int} (h:Rds m a b rc q j n B st rb qs (.sl none 0 0 0 true) [] none) (aq:a≠q) (h0:0<=most) (h1:most<=64)
  (hcl:∀m' st' s' (l:List α) r',Rds m' a b rc q j n B st' rb (qs.set j s') s' (l.map f) r'->l.length<64->∃m'',q1m (Da H50).call fv [] m'=some (.undef,m'')/\Rdd m' m'' b q j n B (g st').2 rb (qs.set j s') ((l++[(g st').1]).map f) r') :
  ∃m' s' r',run E50 (.fn 162) [.ptr (some ⟨a,0⟩),.int .u64 most,fv] m=some (.undef,m')/\q2s m' b B (q2K g (q1a B most st).1.toNat (q1a B most st).2).2 rb/\m'.get q=some (.cells (qs.set j s') false)/\
   q08 n m' s' ((q2K g (q1a B most st).1.toNat (q1a B most st).2).1.map f) r'/\Fr m m' [b,q]/\∀c,r'=some c->m.next<=c:=by
 have hj:j<qs.length:=(xgi.1 h.gj).1;have keep:∀{M:Mem} {st2:RS} {sl:AV} {l:List (List AV)} {r2:Option Nat},Fr m M [b,q]->q2s M b B st2 rb->M.get q=some (.cells (qs.set j sl) false)->q08 n M sl l r2->(∀c,r2=some c->m.next<=c)->Rds M a b rc q j n B st2 rb (qs.set j sl) sl l r2:=by
  intro M st2 sl l r2 hf hr hq ht hg;have e1:=Mem.q0u h.gq;have e2:=Mem.q0u h.c;have e3:=h.rd.blt;exact⟨hr,⟨hf.get h.ir.1 (by have:=h.ir.2;simp;omega),h.ir.2⟩,hf.get h.c (by have:=h.cb;have:=h.cq.1;simp;omega),h.cb,hq,by rw[List.getElem?_set_self hj],ht,fun e=>by have:=hg _ e;omega,fun e=>by have:=hg _ e.symm;omega,h.bq,⟨h.cq.1,fun e=>by have:=hg _ e.symm;omega⟩,⟨h.rr.1,fun c hc e=>by have:=hg _ e;have:=h.rd.rlt c hc;omega⟩⟩
 have hset:qs.set j (.sl none 0 0 0 true)=qs:=by
  apply List.ext_getElem (by simp);intro k h1 h2;rw[List.getElem_set];split
  ·rename_i e;subst e;exact((xgi.1 h.gj).2).symm
  ·rfl
 obtain⟨m',e1,i1⟩:=z6M (a:=a) (b:=b) (B:=B) (α:=α) (I:=fun M s l=>s.e=0/\∃sl r2,Rds M a b rc q j n B s.rs rb (qs.set j sl) sl (l.map f) r2/\Fr m M [b,q]/\∀c,r2=some c->m.next<=c) (f:=noE g) (fv:=fv) (m:=m) (most:=most) (st:=st) (N:=64) ⟨h0,by omega⟩ h1
  (fun M s l hI=>by obtain⟨he,sl,r2,hR,_⟩:=hI;rw[he];exact hR.ir)
  (fun M s l hI _ hN=>by
   obtain⟨he,sl,r2,hR,hF,hG⟩:=hI;obtain⟨m2,k1,s3,r3,k2,k3,k4,k5,k6⟩:=hcl M s.rs sl l r2 hR hN;refine⟨_,m2,k1,rfl,s3,r3,?_,?_,fun c hc=>xnt0 hF.next (k6 c hc)⟩
   ·rw[List.set_set]at k3;exact keep (hF.step k5 (fun c hc=>by
     simp only[xmk0,xAw]at hc⊢;rcases hc with h|h|h
     ·exact .inl (.inl h)
     ·exact .inl (.inr (.inl h))
     ·exact .inr (hG c h))) k2 k3 k4 (fun c hc=>xnt0 hF.next (k6 c hc))
   ·exact hF.step k5 (fun c hc=>by
     simp only[xmk0,xAw]at hc⊢;rcases hc with h|h|h
     ·exact .inl (.inl h)
     ·exact .inl (.inr (.inl h))
     ·exact .inr (hG c h)))
  ⟨rfl,_,none,keep (Fr.refl' m _) h.rd (by rw[hset];exact h.gq) (by simpa using h.t) (by simp),Fr.refl' m _,by simp⟩
  (by
   obtain⟨m1,e1,r1,f1⟩:=q2T (most:=most) h.rd;have f1':Fr m m1 [b,q]:=f1.mono (by simp +contextual);exact⟨m1,e1,rfl,.sl none 0 0 0 true,none,keep f1' r1 (by rw[hset];exact f1.get h.gq (by have:=h.bq;simp;omega)) (h.t.frame f1 (by simp)) (by simp),f1',by simp⟩)
 rw[j9H]at i1;obtain⟨_,sl,r2,hR,hF,hG⟩:=i1;exact⟨m',sl,r2,e1,hR.rd,hR.gq,hR.t,hF,hG⟩
theorem q6q {f:FuncId} {xs fr:List AV} {m:Mem}:q1m (Da H50).call (.fn (.func f) [] fr) xs m=run E50 (.fn f) (xs++fr) m:=by
 simp only[q1m,xAm,q4b]
theorem a4a {most:Int} (h0:0<=most) (h1:most<18446744073709551616):((q1a B most st).1.toNat:Int)<=most:=by
 have:=q1A (B:=B) (st:=st) h0 h1;omega
theorem a3q (hi:q6k m a b 0) (hr:q2s m b B st rb) (hmx:B.length<=q0j) :
  ∃sp sq sa m' rp rq ra,run E50 (.fn 102) [.ptr (some ⟨a,0⟩)] m=some (.agg [sp,sq,sa,.int .u64 (q5T B st).1.latest],m')/\q2s m' b B (q5T B st).2 rb/\Fr m m' [b]/\
   q08 4 m' sp ((q5T B st).1.q0d.map q0v.cells) rp/\q08 9 m' sq ((q5T B st).1.pairs.map q0D.cells) rq/\q08 4 m' sa ((q5T B st).1.q0s.map q1v.cells) ra/\∀c,(rp=some c\/rq=some c\/ra=some c)->m.next<=c:=by
 have hb:=hr.blt;have hrl:=hr.rlt;have ha:=Mem.q0u hi.1;obtain⟨Z,hZ⟩:∃Z:List AV,Z=[.sl none 0 0 0 true,.sl none 0 0 0 true,.sl none 0 0 0 true,.int .u64 0]:=⟨_,rfl⟩;obtain⟨m1,hm1⟩:∃m1,m1=m.lay (.cells [.ptr (some ⟨a,0⟩)] false):=⟨_,rfl⟩;obtain⟨m2,hm2⟩:∃m2,m2=m1.lay (.cells Z false):=⟨_,rfl⟩;obtain⟨m3,hm3⟩:∃m3,m3=m2.lay (.cells Z false):=⟨_,rfl⟩;have f1:Fr m m1 []:=hm1▸(Fr.refl m).lay _;have f2:Fr m1 m2 []:=hm2▸(Fr.refl m1).lay _
 have f3:Fr m2 m3 []:=hm3▸(Fr.refl m2).lay _;have n1:m1.next=m.next+1:=by rw[hm1];simp
 have n2:m2.next=m.next+2:=by rw[hm2];simp[n1]
 have n3:m3.next=m.next+3:=by rw[hm3];simp[n2]
 have c3:m3.get m.next=some (.cells [.ptr (some ⟨a,0⟩)] false):=f3.get (f2.get (by rw[hm1];exact q0k _ _) (by simp)) (by simp)
 have w3:m3.get m1.next=some (.cells Z false):=f3.get (by rw[hm2];exact q0k _ _) (by simp)
 have q3:m3.get m2.next=some (.cells Z false):=by rw[hm3];exact q0k _ _
 have f03:Fr m m3 []:=(f1.step0 f2).step0 f3;obtain⟨q,hq⟩:∃q,q=m2.next:=⟨_,rfl⟩
 rw[<-hq]at q3;obtain⟨rc,hrc⟩:∃rc,rc=m.next:=⟨_,rfl⟩
 rw[<-hrc]at c3;have aq:a≠q:=by omega
 have ord:∀{M:Mem} {st2:RS} {Q:List AV} {j n:Nat},q2s M b B st2 rb->Fr m3 M [b,q]->M.get q=some (.cells Q false)->Q[j]? = some (.sl none 0 0 0 true)->Rds M a b rc q j n B st2 rb Q (.sl none 0 0 0 true) [] none:=by
  intro M st2 Q j n h1 h2 h3 h4;exact⟨h1,⟨h2.get (f03.get hi.1 (by simp)) (by have:=hi.2;simp;omega),hi.2⟩,h2.get c3 (by simp;omega),by omega,h3,h4,q08.nil _ _ _ _,by simp,by simp,by omega,⟨by omega,by simp⟩,⟨fun e=>by have:=hrl _ e;omega,by simp⟩⟩
 have old:∀{r:Option Nat} {M:Mem},m3.next<=M.next->(∀c,r=some c->M.next<=c)->∀c,r=some c->c∉[b,q]:=by
  intro r M h1 h2 c hc;have:=h2 c hc;simp;omega
 obtain⟨m4,s1,r1,e4,d4,g4,t4,f4,o4⟩:=z2s (f:=q0v.cells) (g:=q53 B) (fv:=.fn (.func 163) [] [.ptr (some ⟨rc,0⟩),.ptr (some ⟨q,0⟩)]) (most:=8) (j:=0) (n:=4) (ord (hr.q0m f03) (Fr.refl' m3 _) q3 (by rw[hZ];rfl)) aq (by omega) (by omega) (fun M st' s' l r' hR hN=>by
  obtain⟨M',e,w⟩:=a1E hR hmx (by have:(65:Nat)*40<=q0j:=(by decide);omega);exact⟨M',by rw[q6q];exact e,w⟩)
 obtain⟨m5,s2,r2,e5,d5,g5,t5,f5,o5⟩:=z2s (f:=q0D.cells) (g:=z2p B) (fv:=.fn (.func 167) [] [.ptr (some ⟨rc,0⟩),.ptr (some ⟨q,0⟩)]) (most:=64) (j:=1) (n:=9) (ord d4 f4 g4 (by rw[hZ];rfl)) aq (by omega) (by omega) (fun M st' s' l r' hR hN=>by
  obtain⟨M',e,w⟩:=a1F hR hmx (by have:(65:Nat)*88<=q0j:=(by decide);omega);exact⟨M',by rw[q6q];exact e,w⟩)
 have f35:Fr m3 m5 [b,q]:=f4.step f5 (fun c hc=>.inl hc)
 obtain⟨m6,e6,d6,f6⟩:=q2T (most:=q0M) d5;have g6:=f6.get g5 (by simp;omega);have f36:Fr m3 m6 [b,q]:=f35.step f6 (fun c hc=>.inl (by simp at hc;simp[hc]))
 obtain⟨nu,hnu⟩:∃nu,nu=(q1a B q0M (q2K (z2p B) (q1a B 64 (q2K (q53 B) (q1a B 8 st).1.toNat (q1a B 8 st).2).2).1.toNat (q1a B 64 (q2K (q53 B) (q1a B 8 st).1.toNat (q1a B 8 st).2).2).2).2):=⟨_,rfl⟩;rw[<-hnu]at e6 d6;have e7:=q1B (v:=.int .u64 nu.1) (vs:=[.int .u64 nu.1]) (o:=3) (n:=1) g6 (q3k rfl) rfl (by rw[hZ];simp);obtain⟨Q7,hQ7⟩:∃Q7:List AV,Q7=[s1,s2,.sl none 0 0 0 true,.int .u64 nu.1]:=⟨_,rfl⟩
 rw[show (((Z.set 0 s1).set 1 s2).take 3++[AV.int .u64 nu.1]++((Z.set 0 s1).set 1 s2).drop (3+1))=Q7 by rw[hZ,hQ7];rfl]at e7;obtain⟨m7,hm7⟩:∃m7,m7=m6.put q (some (.cells Q7 false)):=⟨_,rfl⟩;rw[<-hm7]at e7;have f7:Fr m6 m7 [q]:=hm7▸Fr.put _ _ _;have f37:Fr m3 m7 [b,q]:=f36.step f7 (fun c hc=>.inl (by simp at hc;simp[hc]))
 have g7:m7.get q=some (.cells Q7 false):=hm7▸q0x g6;obtain⟨m8,s3,r3,e8,d8,g8,t8,f8,o8⟩:=z2s (f:=q1v.cells) (g:=a3Z B) (fv:=.fn (.func 169) [] [.ptr (some ⟨rc,0⟩),.ptr (some ⟨q,0⟩)]) (most:=64) (j:=2) (n:=4) (ord (d6.frame f7 (by simp;omega) (fun c hc=>by have:=hrl c hc;simp;omega)) f37 g7 (by rw[hQ7];rfl)) aq (by omega) (by omega) (fun M st' s' l r' hR hN=>by
  obtain⟨M',e,w⟩:=a1G hR hmx (by have:(65:Nat)*40<=q0j:=(by decide);omega);exact⟨M',by rw[q6q];exact e,w⟩)
 have f38:Fr m3 m8 [b,q]:=f37.step f8 (fun c hc=>.inl hc)
 have w8:=f38.get w3 (by simp;omega);obtain⟨Q,hQ⟩:∃Q:List AV,Q=[s1,s2,s3,.int .u64 nu.1]:=⟨_,rfl⟩;have g8':m8.get q=some (.cells Q false):=by rw[g8,hQ7,hQ];rfl
 have hone:Q.all AV.one=true:=by
  rw[hQ];simp only[xBq,t4.one,t5.one,t8.one,xCw];rfl
 have e9:=q14 w8 (by rw[hZ];rfl) (v:=Q) (n:=4) (by rw[hQ];rfl) hone;obtain⟨m9,hm9⟩:∃m9,m9=m8.put m1.next (some (.cells Q false)):=⟨_,rfl⟩
 rw[<-hm9]at e9;have f9:Fr m8 m9 [m1.next]:=hm9▸Fr.put _ _ _
 have e10:ldN m9 (.ptr (some ⟨m1.next,0⟩)) 4=some (.agg Q):=q0X (hm9▸q0x w8) (by rw[hQ];rfl)
 have e8':ldN m8 (.ptr (some ⟨q,0⟩)) 4=some (.agg Q):=q0X g8' (by rw[hQ];rfl);have k34:=f4.next
 have k45:=f5.next
 have k56:=f6.next
 have k67:=f7.next
 have T1:q08 4 m9 s1 _ r1:=(((((t4.frame f5 (old (xnr _) o4)).frame f6 (fun c hc=>by have:=o4 c hc;simp;omega)).frame f7 (fun c hc=>by have:=o4 c hc;simp;omega)).frame f8 (old (xnr _) o4)).frame f9 (fun c hc=>by have:=o4 c hc;simp;omega))
 have T2:q08 9 m9 s2 _ r2:=((((t5.frame f6 (fun c hc=>by have:=o5 c hc;simp;omega)).frame f7 (fun c hc=>by have:=o5 c hc;simp;omega)).frame f8 (old k34 o5)).frame f9 (fun c hc=>by have:=o5 c hc;simp;omega))
 have T3:q08 4 m9 s3 _ r3:=t8.frame f9 (fun c hc=>by have:=o8 c hc;simp;omega)
 refine⟨s1,s2,s3,m9,r1,r2,r3,?_,?_,?_,T1,T2,(by subst hnu;exact T3),?_⟩
 ·have eZ:(.cells [.sl none 0 0 0 true,.sl none 0 0 0 true,.sl none 0 0 0 true,.int .u64 0] false:Blk)=.cells Z false:=by rw[hZ]
  have eb:q00 (.ptr (some ⟨a,0⟩))=some (.cells [.ptr (some ⟨a,0⟩)] false,fun b=>.ptr (some ⟨b,0⟩)):=by rfl
  have i3:=(ord (hr.q0m f03) (Fr.refl' m3 _) q3 (by rw[hZ];rfl):Rds m3 a b rc q 0 4 B st rb Z _ [] none);have i4:=(ord d4 f4 g4 (by rw[hZ];rfl):Rds m4 a b rc q 1 9 B _ rb _ _ [] none);have i7:=(ord (d6.frame f7 (by simp;omega) (fun c hc=>by have:=hrl c hc;simp;omega)) f37 g7 (by rw[hQ7];rfl):Rds m7 a b rc q 2 4 B _ rb Q7 _ [] none)
  have c5:=f35.get c3 (by simp;omega);have a5:=f35.get (f03.get hi.1 (by simp)) (by have:=hi.2;simp;omega);have hQf:AV.agg [s1,s2,s3,.int .u64 (q5T B st).1.latest]=.agg Q:=by rw[hQ,hnu];rfl
  rw[hQf];simp only[a8Z (H:=H50) rfl,b59,pB,q1,p1,nnA,q0P,q0T,a0F,eb,eZ,<-hm1,<-hm2,<-hm3,<-hq,<-hrc,q0e i3.c,e4,q0e i4.c,e5,q0e c5,q0e a5,e6,e7,q0e i7.c,e8,e8',e9,e10]
 ·have e:(q5T B st).2=(q2K (a3Z B) (q1a B 64 nu.2).1.toNat (q1a B 64 nu.2).2).2:=by rw[hnu];rfl
  rw[e];exact d8.frame f9 (by simp;omega) (fun c hc=>by have:=hrl c hc;simp;omega)
 ·exact(((f03.any _).step f38 (fun c hc=>by simp at hc;rcases hc with h|h;exact .inl (by simp[h]);exact .inr (by omega))).step f9 (fun c hc=>by simp at hc;exact .inr (by omega)))
 ·intro c hc;rcases hc with h|h|h
  ·have:=o4 c h;omega
  ·have:=o5 c h;omega
  ·have:=o8 c h;omega
end
end
section
section
variable {m m':Mem} {a b p:Nat} {e:Int} {B:List UInt8} {st:RS} {rb:Option Nat}
theorem z3Q:∀(d i:Nat) (m:Mem) (st:RS),i+d=32768->q2s m p B st rb->(st.bad=0->i+(B.length-st.at_)<=32768)->
  ∃m',D50.gor 987136 [.ptr (some ⟨p,0⟩),.int .i64 (i:Int)] m=some (.int .i64 st.bad,m')/\Fr m m' [p]
 | 0,i,m,st,hi,h,hb=>by
  have e1:=z2t h;have e2:q7A B st=st.bad:=by
   unfold q7A;rw[xAa (fun h=>by have:=hb h.1;omega)]
  refine⟨m,?_,Fr.refl' m _⟩;rw[q9b];simp only[z2X,p2,q0b,ifV,q0f,df (show ¬(i:Int)<32768 by omega),z4v (H:=H50),z8k,q0f,e1,e2]
 |d+1,i,m,st,hi,h,hb=>by
  have e1:=z2t h;have dl:decide ((i:Int)<32768)=true:=dt (by omega);by_cases h11:q7A B st=11
  ·obtain⟨m1,e2,r2,f2⟩:=q8r (most:=255) h;have hbad:(q1L B 255 st).2.bad=st.bad/\(st.bad=0->(q1L B 255 st).2.at_=st.at_+1):=by
    unfold q1L;by_cases c:st.bad=0
    ·rw[xAa (by simpa using c)];have hl:st.at_<B.length:=by
      unfold q7A at h11;by_cases c2:st.at_<B.length
      ·exact c2
      ·rw[xAa (fun h=>c2 h.2),c]at h11;omega
     rw[xgq hl];simp only;have:=toNat_lt B[st.at_];rw[xAa (by omega)];exact⟨rfl,fun _=>rfl⟩
    ·rw[xAb c];exact⟨rfl,fun h=>absurd h c⟩
   obtain⟨m2,e3,f3⟩:=z3Q d (i+1) m1 _ (by omega) r2 (fun c=>by
    rw[hbad.1]at c;have:=hb c;rw[hbad.2 c];have hl:st.at_<B.length:=by
     unfold q7A at h11;by_cases c2:st.at_<B.length
     ·exact c2
     ·rw[xAa (fun h=>c2 h.2),c]at h11;omega
    omega)
   rw[hbad.1]at e3;refine⟨m2,?_,f2.step f3 (fun c hc=>.inl hc)⟩
   have ew:IntKind.wrap .i64 ((i:Int)+1)=((i+1:Nat):Int):=by rw[wrap_i64 (by omega) (by omega)];omega
   rw[q9b];simp only[z2X,p2,q0b,ifV,q0f,dl,e1,dt h11,j5R (H:=H50),j2V,q0f,e2,j5S (H:=H50),j2W,q0f,ew,e3]
  ·have e2:q7A B st=st.bad:=by
    unfold q7A at h11⊢;split
    ·rename_i c;rw[xAb c]at h11;exact absurd rfl h11
    ·rfl
   refine⟨m,?_,Fr.refl' m _⟩;rw[q9b];simp only[z2X,p2,q0b,ifV,q0f,dl,e1,df h11,z4v (H:=H50),z8k,q0f];rw[e2]
theorem j4R (hi:q6k m a b e) (h:q2s m b B st rb) (hl:B.length<=32768):∃m',run E50 (.fn 241) [.ptr (some ⟨a,0⟩)] m=some (.int .i64 st.bad,m')/\Fr m m' []:=by
 have h0:=h;obtain⟨s,h1,h2,h3,h4,h5⟩:=h;have hs:s.one=true:=by
  rcases h2.1 with ⟨sz,ex,rfl,_⟩|⟨a,sz,cap,ex,cs,ro,rfl,_⟩<;>rfl
 have l0:ldN m (.ptr (some ⟨b,0⟩)) 3=some (.agg [s,.int .i64 (st.at_:Int),.int .i64 st.bad]):=q0X h1 rfl;have eb:=(q1T (m:=m) (zs:=[.sl none 0 0 0 true,.int .i64 0,.int .i64 0]) (cs:=[s,.int .i64 (st.at_:Int),.int .i64 st.bad]) (n:=3) rfl rfl (by rw[xBq,hs];rfl)).1;have f1:Fr m (m.lay (.cells [s,.int .i64 (st.at_:Int),.int .i64 st.bad] false)) []:=(Fr.refl m).lay _;obtain⟨m2,e2,f2⟩:=z3Q (p:=m.next) (rb:=rb) (B:=B) 32768 0 (m.lay (.cells [s,.int .i64 (st.at_:Int),.int .i64 st.bad] false)) st (by omega) ⟨s,q0k _ _,h2.frame f1 (by simp),fun hc=>by have:=h2.2.1 _ hc;omega,h4,h5⟩ (fun _=>by omega)
 refine⟨m2,?_,f1.step f2 (fun c hc=>by simp at hc;exact .inr (by omega))⟩
 simp only[xAz]at e2;simp only[a9E (H:=H50) rfl,b6G,p1,q1,pB,nnA,q0f,q0e hi.1,l0,eb,e2]
theorem j9P {most:Int} (h:(q1g B most st).2.bad≠0):(q1g B most st).1=[]:=by
 by_cases c:(q1a B most st).2.bad=0
 ·by_cases c2:((B.length-(q1a B most st).2.at_:Nat):Int)<(q1a B most st).1
  ·simp only[q1g,c,c2,ne_eq,xAq,xAh,xAd]
  ·simp only[q1g,c,c2,ne_eq,xAq,xAh]at h
 ·simp only[q1g,c,ne_eq,xCu,xAd]
theorem z9X {most:Int} (h0:0<=most) (h1:most<18446744073709551616):((q1g B most st).1.length:Int)<=most:=by
 have n0:=q1A (B:=B) (st:=st) h0 h1;by_cases c:(q1a B most st).2.bad=0
 ·by_cases c2:((B.length-(q1a B most st).2.at_:Nat):Int)<(q1a B most st).1
  ·simp only[q1g,c,c2,ne_eq,xAq,xAh,xAd,xAv];omega
  ·simp only[q1g,c,c2,ne_eq,xAq,xAh,xlt0];omega
 ·simp only[q1g,c,ne_eq,xCu,xAd,xAv];omega
theorem b0G {s:AV} {l:List UInt8} {seq:Int} {K0:List AV} {p0:Nat} (hi:q6k m a b 0) (h:q2s m b B st rb) (hp0:m.get p0=some (.cells K0 false)) (hk0:K0.length=6) (hp:m.get p=some (.cells [.int .u64 seq,.int .i64 0,.int .u64 0,.int .i64 0,.int .u64 0,.int .i64 0] false)) (hs:Sl m s (u8 l)) (hl:l.length<=64)
  (ne:p0≠p/\p0≠a/\p0≠b/\p≠a/\p≠b/\rb≠some p/\rb≠some p0/\rb≠some a) :
  ∃m',D50.gor 704512 [.ptr (some ⟨a,0⟩),.ptr (some ⟨p0,0⟩),.ptr (some ⟨p,0⟩),s] m=some (.agg (⟨seq,(q95 l).1⟩:q1d).cells,m')/\q6k m' a b (q95 l).2/\q2s m' b B st rb/\Fr m m' [p0,p,a]:=by
 have hmax:(100:Nat)<=q0j:=by decide
 obtain⟨m1,e1,f1⟩:=z5E hs (by omega) (by omega);obtain⟨d,hd⟩:∃d,d=q95 l:=⟨_,rfl⟩;rw[<-hd]at e1⊢;obtain⟨K,hK⟩:∃K,K=(⟨seq,d.1⟩:q1d).cells:=⟨_,rfl⟩;have q1:=f1.get hp (by simp);have s2:=st5 (v:=.agg d.1.cells) (vs:=d.1.cells) (o:=1) (n:=5) (ds:=K) q1 rfl rfl (by simp) (by subst hK;simp[q1d.cells]);obtain⟨m2,hm2⟩:∃m2,m2=m1.put p (some (.cells K false)):=⟨_,rfl⟩;rw[<-hm2]at s2;have f2:Fr m1 m2 [p]:=hm2▸Fr.put _ _ _
 have q2:m2.get p=some (.cells K false):=hm2▸q0x q1;have a2:=f2.get (f1.get hi.1 (by simp)) (by simpa using ne.2.2.2.1.symm);have s3:=q1B (v:=.int .i64 d.2) (vs:=[.int .i64 d.2]) (o:=1) (n:=1) a2 (q3k rfl) rfl (by simp);simp only[xBk,xBp,xBh,List.drop_nil,xBe,xAy,xAm]at s3;obtain⟨m3,hm3⟩:∃m3,m3=m2.put a (some (.cells [.ptr (some ⟨b,0⟩),.int .i64 d.2] false)):=⟨_,rfl⟩;rw[<-hm3]at s3;have f3:Fr m2 m3 [a]:=hm3▸Fr.put _ _ _
 have q3:=f3.get q2 (by simpa using ne.2.2.2.1);have l3:ldN m3 (.ptr (some ⟨p,0⟩)) 6=some (.agg K):=q0X q3 (by subst hK;rfl);have g3:=f3.get (f2.get (f1.get hp0 (by simp)) (by simpa using ne.1)) (by simpa using ne.2.1);have s4:=q14 g3 hk0 (v:=K) (by subst hK;rfl) (by subst hK;rfl);obtain⟨m4,hm4⟩:∃m4,m4=m3.put p0 (some (.cells K false)):=⟨_,rfl⟩;rw[<-hm4]at s4;have f4:Fr m3 m4 [p0]:=hm4▸Fr.put _ _ _
 have l4:ldN m4 (.ptr (some ⟨p0,0⟩)) 6=some (.agg K):=q0X (hm4▸q0x g3) (by subst hK;rfl);refine⟨m4,?_,⟨f4.get (hm3▸q0x a2) (by simpa using ne.2.1.symm),hi.2⟩,?_,(((f1.any _).step f2 (fun c hc=>.inl (by simp at hc;simp[hc]))).step f3 (fun c hc=>.inl (by simp at hc;simp[hc]))).step f4 (fun c hc=>.inl (by simp at hc;simp[hc]))⟩
 ·rw[j5u,<-hK];simp only[j2y,p1,nnA,q0q,q0P,q0T,q0r,e1,s2,s3,l3,s4,l4]
 ·refine((((h.q0m f1).frame f2 ?_ ?_).frame f3 ?_ ?_).frame f4 ?_ ?_)
  ·simpa using ne.2.2.2.2.1.symm
  ·intro c hc;simp;rintro rfl;exact ne.2.2.2.2.2.1 hc
  ·simpa using hi.2.symm
  ·intro c hc;simp;rintro rfl;exact ne.2.2.2.2.2.2.2 hc
  ·simpa using ne.2.2.1.symm
  ·intro c hc;simp;rintro rfl;exact ne.2.2.2.2.2.2.1 hc
theorem a3r (hi:q6k m a b 0) (h:q2s m b B st rb) (ra:rb≠some a) (hl:B.length<=32768) :
  ∃m',run E50 (.fn 172) [.ptr (some ⟨a,0⟩)] m=some (.agg (q4o B st).1.cells,m')/\q6k m' a b (q4o B st).2.e/\q2s m' b B (q4o B st).2.rs rb/\Fr m m' [a,b]:=by
 have hmax:32768<=q0j:=by decide
 have hb:=h.blt;have ha:=Mem.q0u hi.1;have hr:=h.rlt;obtain⟨m1,hm1⟩:∃m1,m1=m.lay (.cells [.int .u64 0,.int .i64 0,.int .u64 0,.int .i64 0,.int .u64 0,.int .i64 0] false):=⟨_,rfl⟩;have f1:Fr m m1 []:=hm1▸(Fr.refl m).lay _;have n1:m1.next=m.next+1:=by rw[hm1];simp
 have g1:m1.get m.next=some (.cells [.int .u64 0,.int .i64 0,.int .u64 0,.int .i64 0,.int .u64 0,.int .i64 0] false):=by rw[hm1];exact q0k _ _
 have i1:q6k m1 a b 0:=⟨f1.get hi.1 (by simp),hi.2⟩;obtain⟨m2,e2,r2,f2⟩:=q2T (most:=q0M) (h.q0m f1);obtain⟨q,hq⟩:∃q,q=q1a B q0M st:=⟨_,rfl⟩;rw[<-hq]at e2 r2;have n2:=f2.next
 have g2:=f2.get g1 (by simp;omega);have i2:=i1.to f2;have eb:=(q1T (m:=m2) (zs:=[.int .u64 0,.int .i64 0,.int .u64 0,.int .i64 0,.int .u64 0,.int .i64 0]) (cs:=[.int .u64 q.1,.int .i64 0,.int .u64 0,.int .i64 0,.int .u64 0,.int .i64 0]) (n:=6) rfl rfl rfl).1;obtain⟨m3,hm3⟩:∃m3,m3=m2.lay (.cells [.int .u64 q.1,.int .i64 0,.int .u64 0,.int .i64 0,.int .u64 0,.int .i64 0] false):=⟨_,rfl⟩;rw[<-hm3]at eb
 have f3:Fr m2 m3 []:=hm3▸(Fr.refl m2).lay _;have n3:m3.next=m2.next+1:=by rw[hm3];simp
 have p3:m3.get m2.next=some (.cells [.int .u64 q.1,.int .i64 0,.int .u64 0,.int .i64 0,.int .u64 0,.int .i64 0] false):=by rw[hm3];exact q0k _ _
 have g3:=f3.get g2 (by simp);have i3:q6k m3 a b 0:=⟨f3.get i2.1 (by simp),i2.2⟩;obtain⟨s,m4,rs,e4,w4,r4,f4,l4⟩:=z98 (most:=64) (by omega) (by omega) (r2.q0m f3) (by omega);have htl:(q1g B 64 q.2).1.length<=64:=by have:=z9X (B:=B) (st:=q.2) (most:=64) (by omega) (by omega);omega
 have hbt:=j9P (B:=B) (st:=q.2) (most:=64);have hp:q4o B st=(if (q1g B 64 q.2).2.bad≠0 then (⟨q.1,j1H⟩,⟨(q1g B 64 q.2).2,0⟩) else (⟨q.1,(q95 (q1g B 64 q.2).1).1⟩,⟨(q1g B 64 q.2).2,(q95 (q1g B 64 q.2).1).2⟩)):=by rw[hq];rfl
 rw[hp];obtain⟨t,ht⟩:∃t,t=q1g B 64 q.2:=⟨_,rfl⟩;rw[<-ht]at w4 r4 htl hbt⊢;have i4:=i3.to f4;have g4:=f4.get g3 (by simp;omega);have p4:=f4.get p3 (by simp;omega);have n4:=f4.next
 have F4:Fr m m4 [a,b]:=((((f1.step0 (Fr.refl m1)).any [a,b]).step f2 (fun c hc=>.inl (by simp at hc;simp[hc]))).step0 f3).step f4 (fun c hc=>.inl (by simp at hc;simp[hc]))
 have hlen:=q3j w4.sl;have go4:∀M:Mem,Fr m4 M []->t.2.bad=0->∃m',D50.gor 704512 [.ptr (some ⟨a,0⟩),.ptr (some ⟨m.next,0⟩),.ptr (some ⟨m2.next,0⟩),s] M=some (.agg (⟨q.1,(q95 t.1).1⟩:q1d).cells,m')/\q6k m' a b (q95 t.1).2/\q2s m' b B t.2 rb/\Fr m m' [a,b]:=by
  intro M hM _;obtain⟨m',k1,k2,k3,k4⟩:=b0G (p0:=m.next) (p:=m2.next) (K0:=[.int .u64 0,.int .i64 0,.int .u64 0,.int .i64 0,.int .u64 0,.int .i64 0]) ⟨hM.get i4.1 (by simp),i4.2⟩ (r4.q0m hM) (hM.get g4 (by simp)) rfl (hM.get p4 (by simp)) (w4.frame hM (by simp)).sl htl ⟨by omega,by omega,by omega,by omega,by omega,fun e=>by have:=hr _ e;omega,fun e=>by have:=hr _ e;omega,ra⟩
  exact⟨m',k1,k2,k3,(F4.step0 hM).step k4 (fun c hc=>by simp at hc;rcases hc with h|h|h;exact .inr (by omega);exact .inr (by omega);exact .inl (by simp[h]))⟩
 have eZ:(.cells [.int .u64 0,.int .i64 0,.int .u64 0,.int .i64 0,.int .u64 0,.int .i64 0] false:Blk)=.cells [.int .u64 0,.int .i64 0,.int .u64 0,.int .i64 0,.int .u64 0,.int .i64 0] false:=rfl;by_cases h0:t.1.length=0
 ·obtain⟨m5,e5,f5⟩:=j4R i4 r4 hl;have i5:q6k m5 a b 0:=⟨f5.get i4.1 (by simp),i4.2⟩;by_cases hbad:t.2.bad=0
  ·obtain⟨m',k1,k2,k3,k4⟩:=go4 m5 f5 hbad;rw[xAa (by simpa using hbad)];refine⟨m',?_,k2,k3,k4⟩;simp only[z6T (H:=H50) rfl,b2I,pB,p1,q1,p2,q0p,AV.cells,Nat.reduceAdd,Nat.reduceLeDiff,nnA,q0b,ifV,q0P,q0T,q0r,<-hm1,q0e i1.1,e2,eb,q0e i3.1,e4,hlen,dt (show (t.1.length:Int)=0 by omega),e5,dt hbad,xbt,k1]
  ·rw[xAb hbad];have p5:=f5.get p4 (by simp);have l5:ldN m5 (.ptr (some ⟨m2.next,0⟩)) 6=some (.agg (⟨q.1,j1H⟩:q1d).cells):=q0X p5 rfl
   have g5:=f5.get g4 (by simp);have s6:=q14 g5 rfl (v:=(⟨q.1,j1H⟩:q1d).cells) (n:=6) rfl rfl;obtain⟨m6,hm6⟩:∃m6,m6=m5.put m.next (some (.cells (⟨q.1,j1H⟩:q1d).cells false)):=⟨_,rfl⟩
   rw[<-hm6]at s6;have f6:Fr m5 m6 [m.next]:=hm6▸Fr.put _ _ _
   have l6:ldN m6 (.ptr (some ⟨m.next,0⟩)) 6=some (.agg (⟨q.1,j1H⟩:q1d).cells):=q0X (hm6▸q0x g5) rfl
   refine⟨m6,?_,⟨f6.get i5.1 (by simp;omega),i5.2⟩,(r4.q0m f5).frame f6 (by simp;omega) (fun c hc=>by have:=hr c hc;simp;omega),(F4.step0 f5).step f6 (fun c hc=>by simp at hc;exact .inr (by omega))⟩
   simp only[z6T (H:=H50) rfl,b2I,pB,p1,q1,p2,q0p,AV.cells,Nat.reduceAdd,Nat.reduceLeDiff,nnA,q0b,ifV,q0P,q0T,q0r,<-hm1,q0e i1.1,e2,eb,q0e i3.1,e4,hlen,dt (show (t.1.length:Int)=0 by omega),e5,df hbad,xbf,l5,s6,l6]
 ·have hbad:t.2.bad=0:=by
   by_cases c:t.2.bad=0
   ·exact c
   ·exact absurd (by rw[hbt c];rfl) h0
  obtain⟨m',k1,k2,k3,k4⟩:=go4 m4 (Fr.refl m4) hbad;rw[xAa (by simpa using hbad)];refine⟨m',?_,k2,k3,k4⟩;simp only[z6T (H:=H50) rfl,b2I,pB,p1,q1,p2,q0p,AV.cells,Nat.reduceAdd,Nat.reduceLeDiff,nnA,q0b,ifV,q0P,q0T,q0r,<-hm1,q0e i1.1,e2,eb,q0e i3.1,e4,hlen,df (show ¬(t.1.length:Int)=0 by omega),k1]
end
end
end Go.Proofs.YtkbhcgifnnhbaaaGreatDoor
