/- Texts of one claim, put together. -/
import Derived.Test.YtlginbmjiecglaaGreatDoorQ24
namespace Go.Proofs.YtlginbmjiecglaaGreatDoor
section
set_option maxRecDepth 8000
set_option maxHeartbeats 1000000
open Go Go.Abs
def j2h:List UInt8:=[69,85,82]
def j2i:List UInt8:=[74,80,89]
def j2j:List UInt8:=[85,83,68]
def z7h:List AV:=[.str j2h,.str j2i,.str j2j]
def z0W (k:Int):List UInt8:=if k=0 then j2h else if k=1 then j2i else j2j
theorem z88 {m:Mem} {cb:Nat} {ro:Bool} (h:m.get cb=some (.cells z7h ro)) {k:Int} (h0:0<=k) (h3:k<3):ixA 1 3 ⟨cb,0⟩ k=some (.ptr (some ⟨cb,k.toNat⟩))/\ld1 m (.ptr (some ⟨cb,k.toNat⟩))=some (.str (z0W k)):=by
 have:k=0\/k=1\/k=2:=by omega
 refine⟨by simp[ixA,h0,h3],?_⟩;rw[q0g h];rcases this with rfl|rfl|rfl<;>rfl
theorem z81 (k:Int):(z0W k).length=3:=by unfold z0W;(repeat' split)<;>rfl
theorem z7i (st:LSt) (n:List UInt8) (s:Int):(q6e st n s).2.most=st.most:=by unfold q6e;(repeat' split)<;>rfl
theorem q83 (st:LSt) (n:List UInt8):(q5a st n).2.2.most=st.most:=by unfold q5a;(repeat' split)<;>rfl
theorem q5m (st:LSt) (i:Int) (x:Wd) (s:Int):(q1N st i x s).2.most=st.most:=by unfold q1N;dsimp only;(repeat' split)<;>rfl
theorem q8H (st:LSt) (i:Int) (x:Wd) (s:Int):(q1y st i x s).2.most=st.most:=by unfold q1y;dsimp only;(repeat' split)<;>rfl
theorem q8F (st:LSt) (i j:Int) (x:Wd) (s:Int):(q1F st i j x s).2.most=st.most:=by unfold q1F;dsimp only;(repeat' split)<;>rfl
theorem z7Z (st:LSt) (x y:List UInt8) (r:Wd) (s:Int):(q6r st x y r s).2.most=st.most:=by unfold q6r;(repeat' split)<;>rfl
theorem q9s (st:LSt) (i j:Int) (x:Wd) (s:Int):(q0P st i j x s).2.2.2.most=st.most:=by
 unfold q0P q7C;dsimp only
 (repeat' split)<;>first|rfl|(unfold LSt.q5b;rfl)
def i64 (n:Int):Prop:=-9223372036854775808<=n/\n<9223372036854775808
def j9j (a:Int×Int×Int×Int):List AV:=[.int .i64 a.1,.int .i64 a.2.1,.int .i64 a.2.2.1,.int .i64 a.2.2.2]
section
variable {M:Mem} {b:Nat} {st:LSt} {F:List Nat}
theorem z7e (h:q0L M b st F) (g:q3Q st) {sl t4:AV} {i:Nat} {a:Int×Int×Int×Int} {bs o:Nat} (hco:∃ro,M.get 1=some (.cells z7h ro))
  (hix:q0M Tryz.prog 22 sl (.int .i64 (i:Int))=some (.ptr (some ⟨bs,o⟩))) (hld:ldN M (.ptr (some ⟨bs,o⟩)) 4=some (.agg (j9j a))) (hN:i64 a.2.2.2) :
  ∃M3 st' F',D26.gor 36865 [sl,t4,.ptr (some ⟨b,0⟩),.int .i64 (i:Int)] M=D26.gor 36866 [sl,t4,.ptr (some ⟨b,0⟩),.int .i64 (i:Int)] M3/\q0L M3 b st' F'/\q3Q st'/\st'.most=st.most/\Fr M M3 F/\∀c,c∈F'->c∈F\/M.next<=c:=by
 obtain⟨w,A,B,N⟩:=a;obtain⟨ro,hco⟩:=hco;simp only[j9j]at hld hN;obtain⟨M2,hM2⟩:∃M2,M2=M.lay (.cells [.int .i64 w,.int .i64 A,.int .i64 B,.int .i64 N] false):=⟨_,rfl⟩;have f2:Fr M M2 []:=by rw[hM2];exact(Fr.refl M).lay _
 have s2:stV (M.lay (.cells [.int .i64 0,.int .i64 0,.int .i64 0,.int .i64 0] false)) (.ptr (some ⟨M.next,0⟩)) (.agg [.int .i64 w,.int .i64 A,.int .i64 B,.int .i64 N]) 4=some M2:=by rw[q0X (n:=4) (q0f M _) rfl rfl rfl,q1c,hM2]
 have a2:∀i:Nat,ld1 M2 (.ptr (some ⟨M.next,i⟩))=[AV.int .i64 w,.int .i64 A,.int .i64 B,.int .i64 N][i]?:=fun i=>by rw[hM2];exact q0g (q0f M _)
 have hR:=h.q0h f2;have co:=f2.get hco (by simp);have pA5:=fun m=>q1k (H:=H26) rfl m A (n:=5) (by omega) (by omega)
 have pB5:=fun m=>q1k (H:=H26) rfl m B (n:=5) (by omega) (by omega)
 have pw:=fun m=>q1k (H:=H26) rfl m w (n:=9) (by omega) (by omega)
 have pA3:=fun m=>q1k (H:=H26) rfl m A (n:=3) (by omega) (by omega)
 have pB3:=fun m=>q1k (H:=H26) rfl m B (n:=3) (by omega) (by omega)
 have pN4:=fun m=>q1k (H:=H26) rfl m N (n:=4) (by omega) (by omega)
 obtain⟨iA,lA⟩:=z88 co (k:=A % 3) (by omega) (by omega);obtain⟨iB,lB⟩:=z88 co (k:=B % 3) (by omega) (by omega);have wA1:IntKind.wrap .i64 (1+A % 5)=1+A % 5:=wrap_i64 (by omega) (by omega);have wA2:IntKind.wrap .u64 (1+A % 5)=1+A % 5:=wrap_u64 (by omega) (by omega);have wB1:IntKind.wrap .i64 (1+B % 5)=1+B % 5:=wrap_i64 (by omega) (by omega);have wB2:IntKind.wrap .u64 (1+B % 5)=1+B % 5:=wrap_u64 (by omega) (by omega)
 have wN:IntKind.wrap .u64 (N % 4)=N % 4:=wrap_u64 (by omega) (by omega);have ft:=a6W (H:=H26) rfl hR g.w (1+A % 5) hN.1 hN.2 M2 (Fr.refl _);have am:=z8I (H:=H26) rfl hN.1 hN.2 M2;have dok:=q8M N;obtain⟨D,hD⟩:∃D,D=q19 N:=⟨_,rfl⟩;rw[<-hD]at ft am dok;obtain⟨s,hs⟩:∃s,s=(q0D st (1+A % 5)).2.1:=⟨_,rfl⟩;rw[<-hs]at ft;simp only[q0u]at ft am;obtain⟨k,hk⟩:∃k,k=w % 9:=⟨_,rfl⟩;have hk9:k=0\/k=1\/k=2\/k=3\/k=4\/k=5\/k=6\/k=7\/k=8:=by omega
 rw[<-hk]at pw;clear hk;have fin:∀{M3:Mem} {st':LSt} {F':List Nat},D26.gor 36865 [sl,t4,.ptr (some ⟨b,0⟩),.int .i64 (i:Int)] M=D26.gor 36866 [sl,t4,.ptr (some ⟨b,0⟩),.int .i64 (i:Int)] M3->q0L M3 b st' F'->q3Q st'->st'.most=st.most->Fr M2 M3 F->(∀c,c∈F'->c∈F\/M2.next<=c)->
   ∃M3 st' F',D26.gor 36865 [sl,t4,.ptr (some ⟨b,0⟩),.int .i64 (i:Int)] M=D26.gor 36866 [sl,t4,.ptr (some ⟨b,0⟩),.int .i64 (i:Int)] M3/\q0L M3 b st' F'/\q3Q st'/\st'.most=st.most/\Fr M M3 F/\∀c,c∈F'->c∈F\/M.next<=c:=fun {M3 st' F'} e1 e2 e3 e4 e5 e6=>
  ⟨M3,st',F',e1,e2,e3,e4,(f2.any F).step e5 (fun c hc=>.inl hc),fun c hc=>(e6 c hc).imp id (fun h=>xnt0 f2.next h)⟩
 rcases hk9 with rfl|rfl|rfl|rfl|rfl|rfl|rfl|rfl|rfl
 ·obtain⟨M3,F',c1,c2,c3,c4⟩:=z6B hR g.w (z0W (A % 3)) (by rw[z81];omega) (scale:=N % 4) (by omega);have c1':=(q5V (H:=H26) (f:=27) rfl _ _).trans c1;refine fin ?_ c2 (z0V g _ (by omega)) (z7i _ _ _) c3 c4;simp only[q3E (H:=H26),T.j3k,p2,q1,pB,p1,q0a,q0e,hix,hld,s2,a2,pA5,pB5,pw,wA1,wA2,wB1,wB2,pA3,iA,lA,pN4,wN,if_true,Int.reduceEq,decide_true,decide_false,c1']
 ·obtain⟨M3,F',c1,c2,c3,c4⟩:=z0w hR g.w (z0W (A % 3));have c1':=(q5V (H:=H26) (f:=28) rfl _ _).trans c1;refine fin ?_ c2 (q79 g _) (q83 _ _) c3 c4;simp only[q3E (H:=H26),T.j3k,p2,q1,pB,p1,q0a,q0e,hix,hld,s2,a2,pA5,pB5,pw,wA1,wA2,wB1,wB2,pA3,iA,lA,if_true,Int.reduceEq,decide_true,decide_false,c1']
 ·obtain⟨M3,F',c1,c2,c3,c4⟩:=z0w hR g.w (z0W (A % 3));have c1':=(q5V (H:=H26) (f:=28) rfl _ _).trans c1;refine fin ?_ c2 (q79 g _) (q83 _ _) c3 c4;simp only[q3E (H:=H26),T.j3k,p2,q1,pB,p1,q0a,q0e,hix,hld,s2,a2,pA5,pB5,pw,wA1,wA2,wB1,wB2,pA3,iA,lA,if_true,Int.reduceEq,decide_true,decide_false,c1']
 ·obtain⟨M3,c1,c2,c3⟩:=q5c hR g.w (1+A % 5) dok s;have c1':=(q5V (H:=H26) (f:=29) rfl _ _).trans c1;refine fin ?_ c2 (q35 g _ _ _) (q5m _ _ _ _) c3 (fun c hc=>.inl hc)
  simp only[q0u]at c1';simp only[q3E (H:=H26),T.j3k,p2,q1,pB,p1,q0a,q0e,hix,hld,s2,a2,pA5,pB5,pw,wA1,wA2,wB1,wB2,ft,Int.reduceEq,decide_true,decide_false,c1']
 ·obtain⟨M3,c1,c2,c3⟩:=q5c hR g.w (1+A % 5) dok s;have c1':=(q5V (H:=H26) (f:=29) rfl _ _).trans c1;refine fin ?_ c2 (q35 g _ _ _) (q5m _ _ _ _) c3 (fun c hc=>.inl hc)
  simp only[q0u]at c1';simp only[q3E (H:=H26),T.j3k,p2,q1,pB,p1,q0a,q0e,hix,hld,s2,a2,pA5,pB5,pw,wA1,wA2,wB1,wB2,ft,Int.reduceEq,decide_true,decide_false,c1']
 ·obtain⟨M3,c1,c2,c3⟩:=q6M hR g.w (1+A % 5) dok s;have c1':=(q5V (H:=H26) (f:=31) rfl _ _).trans c1;refine fin ?_ c2 (q56 g _ _ _) (q8H _ _ _ _) c3 (fun c hc=>.inl hc)
  simp only[q0u]at c1';simp only[q3E (H:=H26),T.j3k,p2,q1,pB,p1,q0a,q0e,hix,hld,s2,a2,pA5,pB5,pw,wA1,wA2,wB1,wB2,ft,Int.reduceEq,decide_true,decide_false,c1']
 ·obtain⟨M3,c1,c2,c3⟩:=q6L hR g.w (1+A % 5) (1+B % 5) dok s;have c1':=(q5V (H:=H26) (f:=32) rfl _ _).trans c1;refine fin ?_ c2 (q52 g _ _ _ _) (q8F _ _ _ _ _) c3 (fun c hc=>.inl hc)
  simp only[q0u]at c1';simp only[q3E (H:=H26),T.j3k,p2,q1,pB,p1,q0a,q0e,hix,hld,s2,a2,pA5,pB5,pw,wA1,wA2,wB1,wB2,ft,Int.reduceEq,decide_true,decide_false,c1']
 ·obtain⟨M3,F',c1,c2,c3,c4⟩:=j84 hR g.toLGood (z0W (A % 3)) (z0W (B % 3)) dok D.2;have c1':=(q5V (H:=H26) (f:=33) rfl _ _).trans c1;refine fin ?_ c2 (z2g g _ _ dok _) (z7Z _ _ _ _ _) c3 c4;simp only[q0u]at c1';simp only[q3E (H:=H26),T.j3k,p2,q1,pB,p1,q0a,q0e,hix,hld,s2,a2,pA5,pB5,pw,wA1,wA2,wB1,wB2,pA3,pB3,iA,lA,iB,lB,am,if_true,Int.reduceEq,decide_true,decide_false,c1']
 ·obtain⟨M3,c1,c2,c3⟩:=q8a hR g.w (1+A % 5) (1+B % 5) dok s;have c1':=(b0O (H:=H26) (f:=34) rfl _ _).trans c1;refine fin ?_ c2 (q6E g _ _ _ _) (q9s _ _ _ _ _) c3 (fun c hc=>.inl hc)
  simp only[q0u]at c1';simp only[q3E (H:=H26),T.j3k,p2,q1,pB,p1,q0a,q0e,hix,hld,s2,a2,pA5,pB5,pw,wA1,wA2,wB1,wB2,ft,Int.reduceEq,decide_false,c1']
end
end
end Go.Proofs.YtlginbmjiecglaaGreatDoor
namespace Go.Abs
section
open Go
def z2C (n:Nat) (m:Mem) (s:AV) (l:List (List AV)):Prop:=q4o n m s l\/(l=[]/\∃a sz cap ex,s=.sl a sz 0 cap ex)
section
variable {P:Program} {t e:TypeId} {n:Nat} {m m':Mem} {s:AV} {l:List (List AV)}
theorem z2C.q0h (h:z2C n m s l) (hf:Fr m m' []):z2C n m' s l:=h.imp (fun h=>h.q0h hf) id
theorem z2C.q2s (ht:P.underlying t=some (.slice e)) (h:z2C n m s l):q2s P t s=some (.int .i64 (l.length:Int)):=by
 rcases h with h|⟨rfl,a,sz,cap,ex,rfl⟩
 ·exact h.q2s ht
 ·exact z1X ht ..
theorem z2C.ixT (ht:P.underlying t=some (.slice e)) (hs:szT P e=some n) (h:z2C n m s l) {i:Nat} (hi:i<l.length) :
  ∃b o,b<m.next/\(∀k:IntKind,q0M P t s (.int k (i:Int))=some (.ptr (some ⟨b,o⟩)))/\(∀k,k<n->ld1 m (.ptr (some ⟨b,o+k⟩))=l[i][k]?)/\(∀k j,k+j<=n->ldN m (.ptr (some ⟨b,o+k⟩)) j=some (.agg ((l[i].drop k).take j)))/\ldN m (.ptr (some ⟨b,o⟩)) n=some (.agg l[i]):=by
 rcases h with h|⟨rfl,_⟩
 ·exact h.ixT ht hs hi
 ·simp at hi
end
theorem z4a {n:Nat} {cs:List AV} {o:Nat} (f:Nat->List AV):∀(len:Nat),(∀i,i<len->(cs.drop (o+i*n)).take n=f i)->(cs.drop o).take (len*n)=((List.range len).map f).flatten
 | 0,_=>by simp
 |len+1,h=>by
  rw[Nat.succ_mul,List.take_add,z4a f len (fun i hi=>h i (by omega)),List.drop_drop,h len (by omega),List.range_succ,List.map_append,List.flatten_append]
  simp
section
variable {P:Program} {W:World} {H:Type} {enc:TypeId×Value->H} {t e:TypeId} {v:Value} {base:Nat}
theorem j3p {α:Type} [Inhabited α] {f:α->List AV} {Q:α->Prop} {n:Nat} (hn0:0<n) {d:DataW H} {p:List MemPlace} (ht:P.underlying t=some (.slice e)) (hn:P.cellsOf e=n) (h:Value.okWide P W .any base t v) (hr:DataW.Trod enc P W 0 (fun _=>true) true t v d p)
  (hel:∀(m:Nat) (cs:List Value) (y:DataW H×List MemPlace),cs.length=n->DataW.trod enc P W 0 (fun _=>true) true m e cs=some y->∃a,cs.map (absP W)=f a/\Q a) (hf:∀a,(f a).length=n/\(f a).all AV.one=true) :
  ∃l:List α,z2C n (z0J W) (z2N W v) (l.map f)/\∀a∈l,Q a:=by
 rcases z8M ht h hr with h|⟨a,len,cap,cs,h1,h2,h3,m,h4⟩
 ·exact⟨[],.inl ⟨by simp,.inl ⟨rfl,_,_,_,h⟩⟩,by simp⟩
 ·rw[hn]at h4;have h5:∀i,i<len->∃x,((cs.drop (a.o+i*n)).take n).map (absP W)=f x/\Q x:=fun i hi=>by
   obtain⟨h6,y,h7⟩:=h4 i (by omega);exact hel m _ y h6 h7
  obtain⟨g,hg⟩:=Go.Deep.choose_lt h5;by_cases h0:len=0
  ·subst h0;exact⟨[],.inr ⟨rfl,some a,0,cap,true,h1⟩,by simp⟩
  refine⟨(List.range len).map g,.inl ⟨fun x hx=>?_,.inr ⟨a.b,a.o,0,cap,true,true,cs.map (absP W),?_,.inr rfl,h3,?_,?_⟩⟩,fun x hx=>?_⟩
  ·obtain⟨y,_,rfl⟩:=List.mem_map.1 hx;exact hf y
  ·simpa using h1
  ·have h6:=(h4 (len-1) (by omega)).1;simp only[xlt0,xld0]at h6;simp only[xlm,List.length_range];have e:len*n=(len-1)*n+n:=by rw[<-Nat.succ_mul];congr 1;omega
   omega
  ·rw[xlm,xlm,List.length_range,List.map_map];have:=z4a (cs:=cs.map (absP W)) (o:=a.o) (n:=n) (fun i=>f (g i)) len fun i hi=>by
    rw[<-List.map_drop,<-List.map_take];exact(hg i hi).1
   exact this
  ·obtain⟨i,hi,rfl⟩:=List.mem_map.1 hx;exact(hg i (List.mem_range.1 hi)).2
end
end
end Go.Abs
namespace Go.Proofs.YtlginbmjiecglaaGreatDoor
section
set_option maxRecDepth 4000
open Go Go.Abs
theorem b3o:∃e,Tryz.prog.underlying 22=some (.slice e)/\szT Tryz.prog e=some 4:=⟨77,by kernel_rfl,by kernel_rfl⟩
theorem z7A {m0:Mem} {sl t4:AV} {acts:List (Int×Int×Int×Int)} (hv:z2C 4 m0 sl (acts.map j9j)) (hN:∀a∈acts,i64 a.2.2.2) (hco:∃ro,m0.get 1=some (.cells z7h ro)) {b:Nat}:∀(d i:Nat) (M:Mem) (st:LSt) (F:List Nat),i+d=60->Fr m0 M []->q0L M b st F->q3Q st->(∀c,c∈F->m0.next<=c)->
  ∃M' st' F',D26.gor 36864 [sl,t4,.ptr (some ⟨b,0⟩),.int .i64 (i:Int)] M=D26.gor 36867 [t4,.ptr (some ⟨b,0⟩)] M'/\q0L M' b st' F'/\q3Q st'/\st'.most=st.most/\Fr m0 M' []/\∀c,c∈F'->m0.next<=c:=by
 obtain⟨e,he,hs⟩:=b3o;have hlen:=hv.q2s he;rw[xlm]at hlen;intro d;induction d with
 |zero=>
  intro i M st F hi fM hR g hF;have:i=60:=by omega
  subst this;refine⟨M,st,F,?_,hR,g,rfl,fM,hF⟩;have c2:decide (((60:Nat):Int)<60)=false:=by decide
  by_cases h:((60:Nat):Int)<(acts.length:Int)
  ·simp only[q9Y (H:=H26),T.a8Y,p1,p2,q0a,ifV,wp,hlen,dt h,c2]
  ·simp only[q9Y (H:=H26),T.a8Y,p1,p2,q0a,ifV,wp,hlen,df h]
 |succ d ih=>
  intro i M st F hi fM hR g hF;by_cases h:i<acts.length
  ·obtain⟨bs,o,_,x2,_,_,x5⟩:=(hv.q0h fM).ixT he hs (i:=i) (by rw[xlm];exact h);rw[xgm]at x5;obtain⟨ro,hco'⟩:=hco;obtain⟨M3,st',F',e1,e2,e3,e4,e5,e6⟩:=z7e hR g (sl:=sl) (t4:=t4) ⟨ro,fM.get hco' (by simp)⟩ (x2 .i64) x5 (hN _ (List.getElem_mem h));have f3:Fr m0 M3 []:=fM.step e5 (fun c hc=>.inr (hF c hc))
   obtain⟨M4,st4,F4,r1,r2,r3,r4,r5,r6⟩:=ih (i+1) M3 st' F' (by omega) f3 e2 e3 (fun c hc=>by rcases e6 c hc with h|h;exact hF c h;exact xnt0 fM.next h)
   refine⟨M4,st4,F4,?_,r2,r3,r4.trans e4,r5,r6⟩;simp only[q9Y (H:=H26),T.a8Y,p1,p2,q0a,ifV,wp,hlen,dt (show (i:Int)<(acts.length:Int) by omega),dt (show (i:Int)<60 by omega)];rw[e1];simp only[a1I (H:=H26),T.b2o,p2,wp,show (i:Int)+1=((i+1:Nat):Int) by omega,wrap_i64 (n:=((i+1:Nat):Int)) (by omega) (by omega)];exact r1
  ·refine⟨M,st,F,?_,hR,g,rfl,fM,hF⟩;simp only[q9Y (H:=H26),T.a8Y,p1,p2,q0a,ifV,wp,hlen,df (show ¬(i:Int)<(acts.length:Int) by omega)]
structure BkN (n:Nat) (m:Mem) (sp sq sa:AV) (st:LSt):Prop where
 ex:∃rp rq ra,q03 4 m sp (st.q0b.map (·.cells)) rp/\q03 9 m sq (st.pairs.map (·.cells)) rq/\q03 4 m sa (st.q0p.map (·.cells)) ra/\Dj rp.toList rq.toList/\Dj rp.toList ra.toList/\Dj rq.toList ra.toList/\(∀c,c∈rp.toList++rq.toList++ra.toList->n<=c)
theorem BkN.v {n:Nat} {m:Mem} {sp sq sa:AV} {st:LSt} (h:BkN n m sp sq sa st):BkV m sp sq sa st:=by
 obtain⟨rp,rq,ra,h1,h2,h3,_⟩:=h.ex;exact⟨h1.v,h2.v,h3.v⟩
theorem j6f {m:Mem} {sl:AV} {acts:List (Int×Int×Int×Int)} (hv:z2C 4 m sl (acts.map j9j)) (hN:∀a∈acts,i64 a.2.2.2) (hco:∃ro,m.get 1=some (.cells z7h ro)) {most:Int} (hm:1<=most/\most<=64) :
  ∃st sp sq sa m',run E26 (.fn 9) [sl,.int .i64 most] m=some (.agg [sp,sq,sa,.int .u64 st.latest],m')/\q3Q st/\st.most=most/\BkN m.next m' sp sq sa st/\Fr m m' []:=by
 obtain⟨m0,hm0⟩:∃m0,m0=m.lay (.cells [.sl none 0 0 0 true,.sl none 0 0 0 true,.sl none 0 0 0 true,.int .u64 0] false):=⟨_,rfl⟩;have f0:Fr m m0 []:=by rw[hm0];exact(Fr.refl m).lay _
 have n0:m0.next=m.next+1:=by rw[hm0];rfl
 have Z0:m0.get m.next=some (.cells [.sl none 0 0 0 true,.sl none 0 0 0 true,.sl none 0 0 0 true,.int .u64 0] false):=by rw[hm0];exact q0f _ _
 obtain⟨M,hM⟩:∃M,M=m0.lay (.cells [.sl none 0 0 0 true,.sl none 0 0 0 true,.sl none 0 0 0 true,.int .u64 0,.int .i64 most] false):=⟨_,rfl⟩;have fM:Fr m0 M []:=by rw[hM];exact(Fr.refl m0).lay _
 have B0:M.get m0.next=some (.cells [.sl none 0 0 0 true,.sl none 0 0 0 true,.sl none 0 0 0 true,.int .u64 0,.int .i64 most] false):=by rw[hM];exact q0f _ _
 have hR:q0L M m0.next ⟨[],[],[],0,most⟩ [m0.next]:=⟨_,_,_,none,none,none,B0,q03.nil _ _ _ _,q03.nil _ _ _ _,q03.nil _ _ _ _,by simp,by simp,by simp,by simp[Dj],by simp[Dj],by simp[Dj],rfl⟩
 obtain⟨ro,hco'⟩:=hco;obtain⟨M',st,F',r1,r2,r3,r4,r5,r6⟩:=z7A (t4:=.ptr (some ⟨m.next,0⟩)) (hv.q0h f0) hN ⟨ro,f0.get hco' (by simp)⟩ 60 0 M _ _ rfl fM hR (q3Q.new most hm) (by simp)
 obtain⟨sp,sq,sa,rp,rq,ra,h1,h2,h3,h4,h5,h6,h7,h8,h9,h10,hF⟩:=r2.ex;have Z':=r5.get Z0 (by simp);have o1:[sp,sq,sa,AV.int .u64 st.latest].all AV.one=true:=by rw[List.all_cons,List.all_cons,List.all_cons,h2.one,h3.one,h4.one];rfl
 have lB:ldN M' (.ptr (some ⟨m0.next,0⟩)) 4=some (.agg [sp,sq,sa,.int .u64 st.latest]):=by rw[q00 h1 (by simp)];rfl
 have s4:=q0X (n:=4) (v:=[sp,sq,sa,AV.int .u64 st.latest]) Z' rfl rfl o1;have l4:ldN (M'.put m.next (some (.cells [sp,sq,sa,.int .u64 st.latest] false))) (.ptr (some ⟨m.next,0⟩)) 4=some (.agg [sp,sq,sa,.int .u64 st.latest]):=q0A (q0v Z') rfl
 have fp:Fr M' (M'.put m.next (some (.cells [sp,sq,sa,.int .u64 st.latest] false))) [m.next]:=Fr.put _ _ _
 have nb:∀{r:Option Nat},(∀c,c∈r.toList->c∈F')->∀c,r=some c->c∉[m.next]:=fun hr c hc=>by
  have:=r6 c (hr c (by rw[hc];simp));simp;omega
 have in1:∀c,c∈rp.toList->c∈F':=fun c hc=>by rw[hF];simp only[xmk0,xma];exact .inr (.inl (.inl hc))
 have in2:∀c,c∈rq.toList->c∈F':=fun c hc=>by rw[hF];simp only[xmk0,xma];exact .inr (.inl (.inr hc))
 have in3:∀c,c∈ra.toList->c∈F':=fun c hc=>by rw[hF];simp only[xmk0,xma];exact .inr (.inr hc)
 refine⟨st,sp,sq,sa,_,?_,r3,r4,⟨rp,rq,ra,h2.frame fp (nb in1),h3.frame fp (nb in2),h4.frame fp (nb in3),h8,h9,h10,fun c hc=>?_⟩,(f0.step0 r5).put' (.inr (xnr _))⟩
 ·have nx:m.next+1=m0.next:=n0.symm
  simp only[Int.natCast_zero]at r1;simp only[b1w (H:=H26) rfl,T.f9,pB,p1,q0o,AV.cells,Nat.reduceAdd,Nat.reduceLeDiff,q0K,q0w,AV.one,lcs,ge,Mem.q0t,<-hm0,<-hM,nx,r1];simp only[a1J (H:=H26),T.b2p,p1,q1,nnA,q0H,q0I,q0e,lB,s4,l4]
 ·simp only[xma]at hc;have:c∈F':=by
   rcases hc with (hc|hc)|hc
   ·exact in1 c hc
   ·exact in2 c hc
   ·exact in3 c hc
  have:=r6 c this;omega
end
section
set_option maxRecDepth 4000
open Go Go.Abs
structure b1c (m:Mem) (b:Nat) (st:LSt):Prop where
 ex:∃sp sq sa,m.get b=some (.cells [sp,sq,sa,.int .u64 st.latest] false)/\BkV m sp sq sa st
theorem b1c.q0h {m m':Mem} {b:Nat} {st:LSt} (h:b1c m b st) (hf:Fr m m' []):b1c m' b st:=by
 obtain⟨sp,sq,sa,h1,h2⟩:=h.ex;exact⟨sp,sq,sa,hf.get h1 (by simp),h2.q0h hf⟩
section
variable {m:Mem} {sp:AV} {ps:List q0q}
theorem j6e (hv:q4o 4 m sp (ps.map (·.cells))) (hl:ps.length<=1000000000000000000) (k:List UInt8):∀(d i:Nat) (M:Mem),i+d=ps.length->Fr m M []->
  Res M (D26.gor 372736 [.str k,sp,.int .i64 (ps.length:Int),.int .i64 (i:Int)] M) (.bool (decide (k∈(ps.drop i).map (·.name)))):=by
 obtain⟨e,he,hs⟩:=uP;intro d;induction d with
 |zero=>
  intro i M hi hM;have:i=ps.length:=by omega
  subst this;rw[List.drop_length];simp only[z6k (H:=H26),T.a1H,p2,q0a,wp,df (show ¬((ps.length:Nat):Int)<(ps.length:Int) by omega),j51 (H:=H26),T.a8T,wp];exact Res.eq (Fr.refl _) (by simp)
 |succ d ih=>
  intro i M hi hM;have hlt:i<ps.length:=by omega
  obtain⟨bs,o,_,x2,_,_,x5⟩:=(hv.q0h hM).ixT he hs (i:=i) (by rw[xlm];exact hlt);rw[xgm]at x5;obtain⟨M2,hM2⟩:∃M2,M2=M.lay (.cells ps[i].cells false):=⟨_,rfl⟩;have f2:Fr M M2 []:=by rw[hM2];exact(Fr.refl M).lay _
  have s2:stV (M.lay (.cells [.str [],.int .i64 0,.int .i64 0,.int .u64 0] false)) (.ptr (some ⟨M.next,0⟩)) (.agg ps[i].cells) 4=some M2:=by rw[q0X (n:=4) (q0f M _) rfl rfl rfl,q1c,hM2]
  have a2:∀j:Nat,ld1 M2 (.ptr (some ⟨M.next,j⟩))=ps[i].cells[j]?:=fun j=>by rw[hM2];exact q0g (q0f M _)
  have hc:decide (k∈(ps.drop i).map (·.name))=(decide (ps[i].name=k)||decide (k∈(ps.drop (i+1)).map (·.name))):=by
   rw[List.drop_eq_getElem_cons hlt,List.map_cons,Bool.eq_iff_iff];simp only[Bool.or_eq_true,decide_eq_true_eq,xmk0];exact⟨fun h=>h.imp Eq.symm id,fun h=>h.imp Eq.symm id⟩
  rw[hc];simp only[q0q.cells]at a2 s2 x5;simp only[z6k (H:=H26),T.a1H,p2,q0a,wp,dt (show (i:Int)<(ps.length:Int) by omega)];simp only[j5Z (H:=H26),T.a8R,p2,q1,pB,p1,q0a,q0e,x2,x5,s2,a2];by_cases h:ps[i].name=k
  ·simp only[dt h,Bool.true_or];exact Res.eq f2 rfl
  ·simp only[df h,Bool.false_or];simp only[j50 (H:=H26),T.a8S,p2,wp,show (i:Int)+1=((i+1:Nat):Int) by omega,wrap_i64 (n:=((i+1:Nat):Int)) (by omega) (by omega)];exact(ih (i+1) M2 (by omega) (hM.step0 f2)).step f2
end
section
variable {m:Mem} {sp sq sa:AV} {st:LSt}
theorem a8Z (hb:BkV m sp sq sa st) (hn:q8i st) (lt:Int) (k:List UInt8):Res m (run E26 (.fn 91) [.agg [sp,sq,sa,.int .u64 lt],.str k] m) (.bool (decide (k∈st.q0b.map (·.name)))):=by
 obtain⟨M,hM⟩:∃M,M=m.lay (.cells [sp,sq,sa,.int .u64 lt] false):=⟨_,rfl⟩;have f1:Fr m M []:=by rw[hM];exact(Fr.refl m).lay _
 have a3:∀i:Nat,ld1 M (.ptr (some ⟨m.next,i⟩))=[sp,sq,sa,.int .u64 lt][i]?:=fun i=>by rw[hM];exact q0g (q0f m _)
 obtain⟨e,he,hs⟩:=uP;have hlen:=hb.p.q2s he;rw[xlm]at hlen;have lo:=j6e (hb.p.q0h f1) hn.1 k st.q0b.length 0 M (by omega) (Fr.refl _);rw[List.drop_zero]at lo;simp only[Int.natCast_zero]at lo;simp only[a6d (H:=H26) rfl,T.f91,p1,q1,q0K,q0e,AV.cells,on1,lcs,ge,if_true,xom,hb.p.one,hb.q.one,hb.a.one,<-hM,a3,hlen];exact lo.step f1
end
def z2x (t:Int):List AV:=[.int .i64 (t / 18446744073709551616 / 18446744073709551616),.int .u64 (t / 18446744073709551616 % 18446744073709551616),.int .u64 (t % 18446744073709551616)]
section
variable {M:Mem} {c:Nat}
theorem z6J {h l:Int} (hc:M.get c=some (.cells [.int .i64 (h / 18446744073709551616),.int .u64 (h % 18446744073709551616),.int .u64 l] false)) {w:Wd} (hw:w.ok) {b:Nat} (hb:M.get b=some (.cells w.cells false)) (h1:-85070591730234615865843651857942052864<=h) (h2:h<85070591730234615865843651857942052864) :
  D26.gor 385024 [.ptr (some ⟨c,0⟩),.ptr (some ⟨b,0⟩)] M=some (.undef,M.put c (some (.cells [.int .i64 ((h+w.hi) / 18446744073709551616),.int .u64 ((h+w.hi) % 18446744073709551616),.int .u64 l] false))):=by
 obtain⟨w1,w2,w3,w4⟩:=hw;have fh:q0Q h=true:=q0V (by omega) (by omega);have fw:q0Q w.hi=true:=q0V (by omega) (by omega);have fs:q0Q (h+w.hi)=true:=q0V (by omega) (by omega);have o:=fun m=>a3r (H:=H26) rfl w1 w2 m
 have ad:=fun m=>z0L (H:=H26) rfl (Wd.q25 fh) (Wd.q25 fw) m
 rw[Wd.q1B,Wd.q1B,q1a fs]at ad;have l2:ldN M (.ptr (some ⟨c,0⟩)) 2=some (.agg (Wd.of h).cells):=by rw[q00 hc (by simp)];rfl
 have b1:∀i:Nat,ld1 M (.ptr (some ⟨b,i⟩))=w.cells[i]?:=fun i=>q0g hb
 have s2:=q1l (v:=.agg (Wd.of (h+w.hi)).cells) (o:=0) (n:=2) hc (q1e rfl) rfl (by simp);simp only[Wd.cells,Wd.of,List.take_zero,List.nil_append,xnz,List.drop_succ_cons,List.drop_zero,List.cons_append]at o ad l2 b1 s2;simp only[j54 (H:=H26),T.a8V,p1,q1,nnA,q0d,q0F,l2,b1,o,if_true,ad,s2]
theorem z0y {t:Int} (hc:M.get c=some (.cells (z2x t) false)) {w:Wd} (hw:w.ok) (h1:-784637716923335095479473677900958302012794430558004314112<=t) (h2:t<784637716923335095479473677900958302012794430558004314112) :
  ∃M',run E26 (.fn 94) [.ptr (some ⟨c,0⟩),.agg w.cells] M=some (.undef,M')/\M'.get c=some (.cells (z2x (t+w.val)) false)/\Fr M M' [c]:=by
 have hw':=hw;obtain⟨w1,w2,w3,w4⟩:=hw;have lc:=Mem.q0x hc;obtain⟨h,hh⟩:∃h,h=t / 18446744073709551616:=⟨_,rfl⟩;obtain⟨l,hl⟩:∃l,l=t % 18446744073709551616:=⟨_,rfl⟩;obtain⟨M1,hM1⟩:∃M1,M1=M.lay (.cells w.cells false):=⟨_,rfl⟩;have f1:Fr M M1 []:=by rw[hM1];exact(Fr.refl M).lay _
 have c1:M1.get c=some (.cells [.int .i64 (h / 18446744073709551616),.int .u64 (h % 18446744073709551616),.int .u64 l] false):=by rw[hh,hl];exact f1.get hc (by simp)
 have b1:M1.get M.next=some (.cells w.cells false):=by rw[hM1];exact q0f _ _
 obtain⟨k,hk⟩:∃k,k=(l+w.lo) % 18446744073709551616:=⟨_,rfl⟩;obtain⟨M2,hM2⟩:∃M2,M2=M1.put c (some (.cells [.int .i64 (h / 18446744073709551616),.int .u64 (h % 18446744073709551616),.int .u64 k] false)):=⟨_,rfl⟩;have f2:Fr M1 M2 [c]:=by rw[hM2];exact Fr.put _ _ _
 have c2:M2.get c=some (.cells [.int .i64 (h / 18446744073709551616),.int .u64 (h % 18446744073709551616),.int .u64 k] false):=by rw[hM2];exact q0v c1
 have b2:M2.get M.next=some (.cells w.cells false):=f2.get b1 (by simp;omega)
 have s1:stV M1 (.ptr (some ⟨c,2⟩)) (.int .u64 k) 1=some M2:=by
  have:=q1l (v:=.int .u64 k) (o:=2) (n:=1) c1 rfl rfl (by simp);rw[hM2];simpa using this
 have a1:∀i:Nat,ld1 M1 (.ptr (some ⟨c,i⟩))=[AV.int .i64 (h / 18446744073709551616),.int .u64 (h % 18446744073709551616),.int .u64 l][i]?:=fun i=>q0g c1
 have a2:∀i:Nat,ld1 M2 (.ptr (some ⟨c,i⟩))=[AV.int .i64 (h / 18446744073709551616),.int .u64 (h % 18446744073709551616),.int .u64 k][i]?:=fun i=>q0g c2
 have e1:∀i:Nat,ld1 M1 (.ptr (some ⟨M.next,i⟩))=w.cells[i]?:=fun i=>q0g b1
 have e2:∀i:Nat,ld1 M2 (.ptr (some ⟨M.next,i⟩))=w.cells[i]?:=fun i=>q0g b2
 have wk:IntKind.wrap .u64 (l+w.lo)=k:=by rw[q0n,hk]
 have fr2:Fr M M2 [c]:=(f1.any _).step f2 (fun c hc=>.inl hc)
 by_cases hlt:k<w.lo
 ·have fh:q0Q h=true:=q0V (by omega) (by omega);have fs:q0Q (h+1)=true:=q0V (by omega) (by omega);have o:=fun m=>a3r (H:=H26) rfl (n:=1) (by omega) (by omega) m
  have ad:=fun m=>z0L (H:=H26) rfl (Wd.q25 fh) (Wd.q25 (n:=1) (q0V (by omega) (by omega))) m
  rw[Wd.q1B,Wd.q1B,q1a fs]at ad;have l2:ldN M2 (.ptr (some ⟨c,0⟩)) 2=some (.agg (Wd.of h).cells):=by rw[q00 c2 (by simp)];rfl
  have s2:=q1l (v:=.agg (Wd.of (h+1)).cells) (o:=0) (n:=2) c2 (q1e rfl) rfl (by simp);obtain⟨M3,hM3⟩:∃M3,M3=M2.put c (some (.cells [.int .i64 ((h+1) / 18446744073709551616),.int .u64 ((h+1) % 18446744073709551616),.int .u64 k] false)):=⟨_,rfl⟩;have f3:Fr M2 M3 [c]:=by rw[hM3];exact Fr.put _ _ _
  have c3:M3.get c=some (.cells [.int .i64 ((h+1) / 18446744073709551616),.int .u64 ((h+1) % 18446744073709551616),.int .u64 k] false):=by rw[hM3];exact q0v c2
  have en:=z6J c3 hw' (f3.get b2 (by simp;omega)) (by omega) (by omega);refine⟨M3.put c (some (.cells [.int .i64 ((h+1+w.hi) / 18446744073709551616),.int .u64 ((h+1+w.hi) % 18446744073709551616),.int .u64 k] false)),?_,(q0v c3).trans ?_,(fr2.step f3 (fun c hc=>.inl hc)).put' (.inl (by simp))⟩
  ·simp only[Wd.cells,Wd.of,List.take_zero,List.nil_append,xnz,List.drop_succ_cons,List.drop_zero,List.cons_append]at o ad l2 s2 e1 e2 hM1;rw[<-hM3]at s2;simp only[j7X (H:=H26) rfl,T.f94,p1,q1,p2,q0K,nnA,q0d,q0a,q0F,AV.cells,on1,lcs,ge,if_true,xom,Wd.cells,<-hM1,a1,e1,wk,s1,a2,e2,dt hlt,l2,o,ad,s2,en]
  ·unfold z2x Wd.val;have q1:(t+(w.hi*18446744073709551616+w.lo)) / 18446744073709551616=h+1+w.hi:=by omega
   have q2:(t+(w.hi*18446744073709551616+w.lo)) % 18446744073709551616=k:=by omega
   rw[q1,q2]
 ·have en:=z6J c2 hw' b2 (by omega) (by omega);refine⟨M2.put c (some (.cells [.int .i64 ((h+w.hi) / 18446744073709551616),.int .u64 ((h+w.hi) % 18446744073709551616),.int .u64 k] false)),?_,(q0v c2).trans ?_,fr2.put' (.inl (by simp))⟩
  ·simp only[Wd.cells]at e1 e2 hM1;simp only[j7X (H:=H26) rfl,T.f94,p1,q1,p2,q0K,nnA,q0d,q0a,q0F,AV.cells,on1,lcs,ge,if_true,xom,Wd.cells,<-hM1,a1,e1,wk,s1,a2,e2,df hlt,en]
  ·unfold z2x Wd.val;have q1:(t+(w.hi*18446744073709551616+w.lo)) / 18446744073709551616=h+w.hi:=by omega
   have q2:(t+(w.hi*18446744073709551616+w.lo)) % 18446744073709551616=k:=by omega
   rw[q1,q2]
theorem j7a {t:Int} (hc:M.get c=some (.cells (z2x t) false)) (h1:-784637716923335095479473677900958302012794430558004314112<=t) (h2:t<784637716923335095479473677900958302012794430558004314112):run E26 (.fn 95) [.ptr (some ⟨c,0⟩)] M=some (.bool (decide (t=0)),M):=by
 have a1:∀i:Nat,ld1 M (.ptr (some ⟨c,i⟩))=(z2x t)[i]?:=fun i=>q0g hc
 have fh:q0Q (t / 18446744073709551616)=true:=q0V (by omega) (by omega);have l2:ldN M (.ptr (some ⟨c,0⟩)) 2=some (.agg (Wd.of (t / 18446744073709551616)).cells):=by rw[q00 hc (by simp[z2x])];rfl
 have sg:=q6v (H:=H26) rfl (Wd.q25 fh) M;rw[Wd.q1B]at sg;simp only[Wd.cells,Wd.of,z2x]at a1 l2 sg;by_cases h:t % 18446744073709551616=0
 ·have e:decide (sgn (t / 18446744073709551616)=0)=decide (t=0):=by
   unfold sgn;apply decide_eq_decide.mpr;split
   ·omega
   ·split<;>omega
  simp only[j7Y (H:=H26) rfl,T.f95,p1,q1,p2,nnA,ifV,q0e,a1,dt h,l2,sg,e]
 ·simp only[j7Y (H:=H26) rfl,T.f95,p1,q1,p2,nnA,ifV,q0e,a1,df h,df (show ¬t=0 by omega)]
end
end
section
set_option maxRecDepth 4000
open Go Go.Abs
def S27:List FuncId:=[91]
def R27:List FuncId:=[94,95,9]
noncomputable def H27:FuncId->Option (List AV->Mem->R):=q4a E26 S27 R27
noncomputable abbrev E27:Env:=T.EH H27
theorem a4R:q1u E27:=q2N a4Q S27 R27
noncomputable abbrev D27:Do:=T.Rl H27
theorem z8c {H:FuncId->Option (List AV->Mem->R)} {f:FuncId} (h:H f=some (run E26 (.fn f))) (xs:List AV) (m:Mem):run (T.EH H) (.fn f) xs m=run E26 (.fn f) xs m:=q08 h xs m
theorem q3T {H:FuncId->Option (List AV->Mem->R)} (hh:H 91=some (q0y E26 91)) {m:Mem} {sp sq sa:AV} {st:LSt} (hb:BkV m sp sq sa st) (hn:q8i st) (lt:Int) (k:List UInt8) (M:Mem) (hM:Fr m M []) :
  run (T.EH H) (.fn 91) [.agg [sp,sq,sa,.int .u64 lt],.str k] M=some (.bool (decide (k∈st.q0b.map (·.name))),M):=
 q0r hh (by simp[AV.flat,AV.lt]) fun m2 h1 h2=>a8Z ((hb.q0h hM).q0h (Fr.same h1 h2)) hn lt k
structure q8J (st:LSt):Prop where
 small:q8i st
 p:∀p∈st.q0b,p.out.ok/\p.name.length<4611686018427387904
 q:∀q∈st.pairs,q.rate.ok/\q.inx.ok/\q.q18.ok/\q.x.length<4611686018427387904/\q.y.length<4611686018427387904
 a:∀a∈st.q0p,a.bal.ok/\0<=a.id/\a.id<18446744073709551616/\a.q1S.length<4611686018427387904
 lat:0<=st.latest/\st.latest<18446744073709551616
def near (t:Int) (n:Nat):Prop:=-(170141183460469231731687303715884105728*(n:Int))<=t/\t<=170141183460469231731687303715884105728*(n:Int)
theorem near.add {t:Int} {n:Nat} (h:near t n) {w:Wd} (hw:w.ok):near (t+w.val) (n+1):=by
 obtain⟨h1,h2⟩:=h;obtain⟨w1,w2,w3,w4⟩:=hw;unfold near Wd.val;omega
theorem near.up {t:Int} {n k:Nat} (h:near t n) (hk:n<=k):near t k:=by
 obtain⟨h1,h2⟩:=h;unfold near;omega
theorem near.small {t:Int} {n:Nat} (h:near t n) (hn:n<=4000000000000000000):-784637716923335095479473677900958302012794430558004314112<=t/\t<784637716923335095479473677900958302012794430558004314112:=by
 obtain⟨h1,h2⟩:=h;omega
section
variable {m m0:Mem} {sp sq sa:AV} {st:LSt} {bb pb c:Nat} {p:q0q}
theorem j3q (hb:BkV m sp sq sa st) (ok:q8J st) (f0:Fr m m0 []) (hp:m0.get pb=some (.cells p.cells false)) (hpc:pb≠c) (hcm:m.next<=c) (t2:AV):∀(d i:Nat) (M:Mem) (t:Int),i+d=st.q0p.length->Fr m0 M [c]->M.get c=some (.cells (z2x t) false)->near t (i+1)->
  ∃M',D27.gor 200704 [t2,.ptr (some ⟨pb,0⟩),.ptr (some ⟨c,0⟩),sa,.int .i64 (st.q0p.length:Int),.int .i64 (i:Int)] M=D27.gor 200707 [t2,.ptr (some ⟨pb,0⟩),.ptr (some ⟨c,0⟩)] M'/\M'.get c=some (.cells (z2x (t+sA p.name (st.q0p.drop i))) false)/\near (t+sA p.name (st.q0p.drop i)) (st.q0p.length+1)/\Fr m0 M' [c]:=by
 obtain⟨e,he,hs⟩:=uA;have hn:=ok.small.2.2;intro d;induction d with
 |zero=>
  intro i M t hi fM hc hn';have:i=st.q0p.length:=by omega
  subst this;rw[List.drop_length,show sA p.name []=0 from rfl,Int.add_zero];refine⟨M,?_,hc,hn',fM⟩;simp only[z5E (H:=H27),T.a1i,p2,q0a,wp,df (show ¬((st.q0p.length:Nat):Int)<(st.q0p.length:Int) by omega)]
 |succ d ih=>
  intro i M t hi fM hc hn';have hlt:i<st.q0p.length:=by omega
  have FM:Fr m M []:=f0.step fM (fun c' hc'=>by simp only[xms]at hc';subst hc';exact .inr hcm)
  obtain⟨bs,o,_,x2,_,_,x5⟩:=(hb.a.q0h FM).ixT he hs (i:=i) (by rw[xlm];exact hlt);rw[xgm]at x5;obtain⟨a,ha⟩:∃a,a=st.q0p[i]:=⟨_,rfl⟩;have oka:=(ok.a a (by rw[ha];exact List.getElem_mem hlt)).1;have hsum:sA p.name (st.q0p.drop i)=(if a.q1S=p.name then a.bal.val else 0)+sA p.name (st.q0p.drop (i+1)):=by
   rw[List.drop_eq_getElem_cons hlt,ha];rfl
  rw[<-ha]at x5;obtain⟨M2,hM2⟩:∃M2,M2=M.lay (.cells a.cells false):=⟨_,rfl⟩;have f2:Fr M M2 []:=by rw[hM2];exact(Fr.refl M).lay _
  have s2:stV (M.lay (.cells [.int .u64 0,.str [],.int .i64 0,.int .u64 0] false)) (.ptr (some ⟨M.next,0⟩)) (.agg a.cells) 4=some M2:=by rw[q0X (n:=4) (q0f M _) rfl rfl rfl,q1c,hM2]
  have g2:M2.get M.next=some (.cells a.cells false):=by rw[hM2];exact q0f M _
  have a2:∀j:Nat,ld1 M2 (.ptr (some ⟨M.next,j⟩))=a.cells[j]?:=fun j=>q0g g2
  have l2:ldN M2 (.ptr (some ⟨M.next,2⟩)) 2=some (.agg a.bal.cells):=by rw[q00 g2 (by simp)];rfl
  have p2:∀j:Nat,ld1 M2 (.ptr (some ⟨pb,j⟩))=p.cells[j]?:=fun j=>q0g (f2.get (fM.get hp (by simp;exact hpc)) (by simp))
  have c2:=f2.get hc (by simp);have fM2:Fr m0 M2 [c]:=fM.step0 f2;have st1:D27.gor 200704 [t2,.ptr (some ⟨pb,0⟩),.ptr (some ⟨c,0⟩),sa,.int .i64 (st.q0p.length:Int),.int .i64 (i:Int)] M=D27.gor 200705 [t2,.ptr (some ⟨pb,0⟩),.ptr (some ⟨c,0⟩),sa,.int .i64 (st.q0p.length:Int),.int .i64 (i:Int)] M:=by
   simp only[z5E (H:=H27),T.a1i,q0a,wp,dt (show (i:Int)<(st.q0p.length:Int) by omega)]
  have st2:∀M,D27.gor 200706 [t2,.ptr (some ⟨pb,0⟩),.ptr (some ⟨c,0⟩),sa,.int .i64 (st.q0p.length:Int),.int .i64 (i:Int)] M=D27.gor 200704 [t2,.ptr (some ⟨pb,0⟩),.ptr (some ⟨c,0⟩),sa,.int .i64 (st.q0p.length:Int),.int .i64 ((i+1:Nat):Int)] M:=fun M=>by
   simp only[j49 (H:=H27),T.a8f,wp,show (i:Int)+1=((i+1:Nat):Int) by omega,wrap_i64 (n:=((i+1:Nat):Int)) (by omega) (by omega)]
  rw[st1,hsum];simp only[q1b.cells,q0q.cells]at x5 s2 a2 p2;by_cases h:a.q1S=p.name
  ·rw[if_pos h];have ns:=hn'.small (by omega);obtain⟨M3,c1,c3,c4⟩:=z0y c2 oka ns.1 ns.2;have c1':=(z8c (H:=H27) (f:=94) rfl _ _).trans c1;obtain⟨M4,r1,r2,r3,r4⟩:=ih (i+1) M3 (t+a.bal.val) (by omega) (fM2.step c4 (fun c hc=>.inl hc)) c3 (hn'.add oka)
   refine⟨M4,?_,by rw[<-Int.add_assoc];exact r2,by rw[<-Int.add_assoc];exact r3,r4⟩;simp only[z5F (H:=H27),T.a1j,p2,q1,pB,p1,q0a,q0e,x2,x5,s2,a2,dt h,l2,c1',st2];exact r1
  ·rw[if_neg h,Int.zero_add];obtain⟨M4,r1,r2,r3,r4⟩:=ih (i+1) M2 t (by omega) fM2 c2 (hn'.up (by omega));refine⟨M4,?_,r2,r3,r4⟩;simp only[z5F (H:=H27),T.a1j,p2,q1,pB,p1,q0a,q0e,x2,x5,s2,a2,df h,st2];exact r1
theorem z8O (hb:BkV m sp sq sa st) (ok:q8J st) (f0:Fr m m0 []) (hp:m0.get pb=some (.cells p.cells false)) (hpc:pb≠c) (hcm:m.next<=c) (n0:Nat) (hn0:n0<=1000000000000000001):∀(d i:Nat) (M:Mem) (t:Int),i+d=st.pairs.length->Fr m0 M [c]->M.get c=some (.cells (z2x t) false)->near t (n0+2*i)->
  ∃M',D27.gor 200708 [.ptr (some ⟨pb,0⟩),.ptr (some ⟨c,0⟩),sq,.int .i64 (st.pairs.length:Int),.int .i64 (i:Int)] M=D27.gor 200712 [.ptr (some ⟨c,0⟩)] M'/\M'.get c=some (.cells (z2x (t+sQ p.name (st.pairs.drop i))) false)/\near (t+sQ p.name (st.pairs.drop i)) (n0+2*st.pairs.length)/\Fr m0 M' [c]:=by
 obtain⟨e,he,hs⟩:=uQ;have hn:=ok.small.2.1;intro d;induction d with
 |zero=>
  intro i M t hi fM hc hn';have:i=st.pairs.length:=by omega
  subst this;rw[List.drop_length,show sQ p.name []=0 from rfl,Int.add_zero];refine⟨M,?_,hc,hn',fM⟩;simp only[z5G (H:=H27),T.a1k,p2,q0a,wp,df (show ¬((st.pairs.length:Nat):Int)<(st.pairs.length:Int) by omega)]
 |succ d ih=>
  intro i M t hi fM hc hn';have hlt:i<st.pairs.length:=by omega
  have FM:Fr m M []:=f0.step fM (fun c' hc'=>by simp only[xms]at hc';subst hc';exact .inr hcm)
  obtain⟨bs,o,_,x2,_,_,x5⟩:=(hb.q.q0h FM).ixT he hs (i:=i) (by rw[xlm];exact hlt);rw[xgm]at x5;obtain⟨a,ha⟩:∃a,a=st.pairs[i]:=⟨_,rfl⟩;have oka:=ok.q a (by rw[ha];exact List.getElem_mem hlt);have hsum:sQ p.name (st.pairs.drop i)=((if a.x=p.name then a.inx.val else 0)+(if a.y=p.name then a.q18.val else 0))+sQ p.name (st.pairs.drop (i+1)):=by
   rw[List.drop_eq_getElem_cons hlt,ha];rfl
  rw[<-ha]at x5;obtain⟨M2,hM2⟩:∃M2,M2=M.lay (.cells a.cells false):=⟨_,rfl⟩;have f2:Fr M M2 []:=by rw[hM2];exact(Fr.refl M).lay _
  have s2:stV (M.lay (.cells [.str [],.str [],.int .i64 0,.int .u64 0,.int .i64 0,.int .i64 0,.int .u64 0,.int .i64 0,.int .u64 0] false)) (.ptr (some ⟨M.next,0⟩)) (.agg a.cells) 9=some M2:=by rw[q0X (n:=9) (q0f M _) rfl rfl rfl,q1c,hM2]
  have g2:M2.get M.next=some (.cells a.cells false):=by rw[hM2];exact q0f M _
  have a2:∀j:Nat,ld1 M2 (.ptr (some ⟨M.next,j⟩))=a.cells[j]?:=fun j=>q0g g2
  have l2:ldN M2 (.ptr (some ⟨M.next,5⟩)) 2=some (.agg a.inx.cells):=by rw[q00 g2 (by simp)];rfl
  have p2:∀j:Nat,ld1 M2 (.ptr (some ⟨pb,j⟩))=p.cells[j]?:=fun j=>q0g (f2.get (fM.get hp (by simp;exact hpc)) (by simp))
  have c2:=f2.get hc (by simp);have fM2:Fr m0 M2 [c]:=fM.step0 f2;have lcM:=Mem.q0x hc;have st1:D27.gor 200708 [.ptr (some ⟨pb,0⟩),.ptr (some ⟨c,0⟩),sq,.int .i64 (st.pairs.length:Int),.int .i64 (i:Int)] M=D27.gor 200709 [.ptr (some ⟨pb,0⟩),.ptr (some ⟨c,0⟩),sq,.int .i64 (st.pairs.length:Int),.int .i64 (i:Int)] M:=by
   simp only[z5G (H:=H27),T.a1k,q0a,wp,dt (show (i:Int)<(st.pairs.length:Int) by omega)]
  have st2:∀M,D27.gor 200711 [.ptr (some ⟨pb,0⟩),.ptr (some ⟨c,0⟩),sq,.int .i64 (st.pairs.length:Int),.int .i64 (i:Int)] M=D27.gor 200708 [.ptr (some ⟨pb,0⟩),.ptr (some ⟨c,0⟩),sq,.int .i64 (st.pairs.length:Int),.int .i64 ((i+1:Nat):Int)] M:=fun M=>by
   simp only[j5b (H:=H27),T.a8h,wp,show (i:Int)+1=((i+1:Nat):Int) by omega,wrap_i64 (n:=((i+1:Nat):Int)) (by omega) (by omega)]
  have half:∀(M3:Mem) (t':Int),Fr m0 M3 [c]->M3.get c=some (.cells (z2x t') false)->M3.get M.next=some (.cells a.cells false)->near t' (n0+2*i+1)->∃M',D27.gor 200710 [.ptr (some ⟨pb,0⟩),.ptr (some ⟨c,0⟩),.ptr (some ⟨M.next,0⟩),sq,.int .i64 (st.pairs.length:Int),.int .i64 (i:Int)] M3=D27.gor 200712 [.ptr (some ⟨c,0⟩)] M'/\
    M'.get c=some (.cells (z2x (t'+(if a.y=p.name then a.q18.val else 0)+sQ p.name (st.pairs.drop (i+1)))) false)/\near (t'+(if a.y=p.name then a.q18.val else 0)+sQ p.name (st.pairs.drop (i+1))) (n0+2*st.pairs.length)/\Fr m0 M' [c]:=by
   intro M3 t' f3 c3 g3 n3;have a3:∀j:Nat,ld1 M3 (.ptr (some ⟨M.next,j⟩))=a.cells[j]?:=fun j=>q0g g3
   have l3:ldN M3 (.ptr (some ⟨M.next,7⟩)) 2=some (.agg a.q18.cells):=by rw[q00 g3 (by simp)];rfl
   have p3:∀j:Nat,ld1 M3 (.ptr (some ⟨pb,j⟩))=p.cells[j]?:=fun j=>q0g (f3.get hp (by simp;exact hpc))
   simp only[q0N.cells,q0q.cells]at a3 p3;by_cases h:a.y=p.name
   ·rw[if_pos h];have ns:=n3.small (by omega);obtain⟨M4,d1,d3,d4⟩:=z0y c3 oka.2.2.1 ns.1 ns.2;have d1':=(z8c (H:=H27) (f:=94) rfl _ _).trans d1;obtain⟨M5,r1,r2,r3,r4⟩:=ih (i+1) M4 (t'+a.q18.val) (by omega) (f3.step d4 (fun c hc=>.inl hc)) d3 ((n3.add oka.2.2.1).up (by omega))
    refine⟨M5,?_,r2,r3,r4⟩;simp only[z5I (H:=H27),T.a1m,p1,q1,q0a,q0e,a3,p3,dt h,l3,d1',st2];exact r1
   ·rw[if_neg h,Int.add_zero];obtain⟨M5,r1,r2,r3,r4⟩:=ih (i+1) M3 t' (by omega) f3 c3 (n3.up (by omega));refine⟨M5,?_,r2,r3,r4⟩;simp only[z5I (H:=H27),T.a1m,p1,q1,q0a,q0e,a3,p3,df h,st2];exact r1
  rw[st1,hsum];have g2':=g2;simp only[q0N.cells,q0q.cells]at x5 s2 a2 p2;by_cases h:a.x=p.name
  ·rw[if_pos h];have ns:=hn'.small (by omega);obtain⟨M3,c1,c3,c4⟩:=z0y c2 oka.2.1 ns.1 ns.2;have c1':=(z8c (H:=H27) (f:=94) rfl _ _).trans c1;obtain⟨M4,r1,r2,r3,r4⟩:=half M3 (t+a.inx.val) (fM2.step c4 (fun c hc=>.inl hc)) c3 (c4.get g2' (by simp;omega)) (hn'.add oka.2.1)
   have e9:t+a.inx.val+(if a.y=p.name then a.q18.val else 0)+sQ p.name (st.pairs.drop (i+1))=t+(a.inx.val+(if a.y=p.name then a.q18.val else 0)+sQ p.name (st.pairs.drop (i+1))):=by omega
   rw[e9]at r2 r3;refine⟨M4,?_,r2,r3,r4⟩;simp only[z5H (H:=H27),T.a1l,p2,q1,pB,p1,q0a,q0e,x2,x5,s2,a2,dt h,l2,c1'];exact r1
  ·rw[if_neg h,Int.zero_add];obtain⟨M4,r1,r2,r3,r4⟩:=half M2 t fM2 c2 g2' (hn'.up (by omega));rw[Int.add_assoc]at r2 r3;refine⟨M4,?_,r2,r3,r4⟩;simp only[z5H (H:=H27),T.a1l,p2,q1,pB,p1,q0a,q0e,x2,x5,s2,a2,df h];exact r1
theorem j9t (hb:BkV m sp sq sa st) (ok:q8J st) (lt:Int) (p:q0q) (hp:p.out.ok):Res m (run E27 (.fn 49) [.agg [sp,sq,sa,.int .u64 lt],.agg p.cells] m) (.bool (decide (z4g st.pairs st.q0p p=0))):=by
 obtain⟨m1,hm1⟩:∃m1,m1=m.lay (.cells [sp,sq,sa,.int .u64 lt] false):=⟨_,rfl⟩;obtain⟨m2,hm2⟩:∃m2,m2=m1.lay (.cells p.cells false):=⟨_,rfl⟩;obtain⟨m3,hm3⟩:∃m3,m3=m2.lay (.cells (z2x 0) false):=⟨_,rfl⟩;have f1:Fr m m1 []:=by rw[hm1];exact(Fr.refl _).lay _
 have f2:Fr m1 m2 []:=by rw[hm2];exact(Fr.refl _).lay _
 have f3:Fr m2 m3 []:=by rw[hm3];exact(Fr.refl _).lay _
 have n1:m1.next=m.next+1:=by rw[hm1];rfl
 have n2:m2.next=m.next+1+1:=by rw[hm2,Mem.q0t,n1]
 have F3:Fr m m3 []:=(f1.step0 f2).step0 f3;have g1:m3.get m.next=some (.cells [sp,sq,sa,.int .u64 lt] false):=(f2.step0 f3).get (by rw[hm1];exact q0f _ _) (by simp)
 have g2:m3.get (m.next+1)=some (.cells p.cells false):=f3.get (by rw[hm2,<-n1];exact q0f _ _) (by simp)
 have g3:m3.get (m.next+1+1)=some (.cells (z2x 0) false):=by rw[hm3,<-n2];exact q0f _ _
 have ns:near 0 0:=by unfold near;omega
 obtain⟨m4,c1,c2,c3⟩:=z0y g3 hp (ns.small (by omega)).1 (ns.small (by omega)).2;rw[Int.zero_add]at c2;have c1':=(z8c (H:=H27) (f:=94) rfl _ _).trans c1;have nA:near p.out.val (0+1):=by have:=ns.add hp;rwa [Int.zero_add]at this
 obtain⟨m5,d1,d2,d3,d4⟩:=j3q hb ok F3 g2 (c:=m.next+1+1) (by omega) (by omega) (.ptr (some ⟨m.next,0⟩)) st.q0p.length 0 m4 p.out.val (by omega) c3 c2 nA
 rw[List.drop_zero]at d2 d3;have sm:=ok.small;obtain⟨m6,e1,e2,e3,e4⟩:=z8O hb ok F3 g2 (c:=m.next+1+1) (by omega) (by omega) (st.q0p.length+1) (by have:=sm.2.2;omega) st.pairs.length 0 m5 _ (by omega) d4 d2 d3
 rw[List.drop_zero]at e2 e3;have ns6:=e3.small (by have:=sm.2.2;have:=sm.2.1;omega);have z:=j7a e2 ns6.1 ns6.2;have z':=(z8c (H:=H27) (f:=95) rfl _ _).trans z;obtain⟨eA,uA1,uA2⟩:=uA;obtain⟨eQ,uQ1,uQ2⟩:=uQ;have la:=hb.a.q2s uA1;have lq:=hb.q.q2s uQ1;rw[xlm]at la lq;have a4:∀i:Nat,ld1 m4 (.ptr (some ⟨m.next,i⟩))=[sp,sq,sa,.int .u64 lt][i]?:=fun i=>q0g (c3.get g1 (by simp;omega))
 have a5:∀i:Nat,ld1 m5 (.ptr (some ⟨m.next,i⟩))=[sp,sq,sa,.int .u64 lt][i]?:=fun i=>q0g (d4.get g1 (by simp;omega))
 have lp:ldN m3 (.ptr (some ⟨m.next+1,2⟩)) 2=some (.agg p.out.cells):=by rw[q00 g2 (by simp)];rfl
 have F6:Fr m m6 []:=F3.step e4 (fun c hc=>by simp only[xms]at hc;subst hc;exact .inr (by omega))
 refine⟨m6,?_,F6⟩;simp only[Int.natCast_zero]at d1 e1;have hs0:(z2x 0)=[.int .i64 0,.int .u64 0,.int .u64 0]:=rfl;rw[hs0]at hm3;simp only[q0q.cells]at hm2⊢;simp only[a5E (H:=H27) rfl,T.f49,pB,p1,q1,q0K,q0e,AV.cells,on1,lcs,ge,if_true,xom,Mem.q0t,hb.p.one,hb.q.one,hb.a.one,<-hm1,<-hm2,<-hm3,lp,c1',a4,la,d1];simp only[j5a (H:=H27),T.a8g,p1,q1,q0e,a5,lq,e1]
 simp only[j5c (H:=H27),T.a8i,wp,z'];rfl
end
end
section
set_option maxRecDepth 4000
open Go Go.Abs
def q6V {α:Type} (l:List α) (i:Nat) (r:α->Bool):Bool:=decide (i=0)||(match l[i-1]? with|some x=>r x|none=>false)
def names (st:LSt):List (List UInt8):=st.q0b.map (·.name)
def z3z (st:LSt) (i:Nat) (q:q0N):Bool:=
 q6V st.pairs i (fun r=>q0c r.x q.x||(decide (r.x=q.x)&&q0c r.y q.y))&&(decide (q.x∈names st)&&(decide (q.y∈names st)&&(!decide (q.x=q.y)&&(decide (q2Z q.rate q.q1h=0)&&(decide (0<=q.inx.val)&&decide (q.q18.val<=0))))))
def z19 (st:LSt) (i:Nat):Bool:=match st.pairs[i]? with|some q=>z3z st i q|none=>false
def a1Q (st:LSt) (i:Nat) (a:q1b):Bool:=
 decide ((match st.q0p[i-1]? with|some x=>if i=0 then 0 else x.id|none=>0)<a.id)&&(decide (a.id<=st.latest)&&(decide (a.q1S∈names st)&&decide (0<=a.bal.val)))
def z18 (st:LSt) (i:Nat):Bool:=match st.q0p[i]? with|some a=>a1Q st i a|none=>false
theorem j24 (x:Int):decide (sgn x<0)=!decide (0<=x):=by unfold sgn;rw[<-decide_not];apply decide_eq_decide.mpr;split<;>(try split)<;>omega
theorem a4e (x:Int):decide (0<sgn x)=!decide (x<=0):=by unfold sgn;rw[<-decide_not];apply decide_eq_decide.mpr;split<;>(try split)<;>omega
section
variable {m:Mem} {bb:Nat} {st:LSt}
theorem j6Q {sp sq sa:AV} (h1:m.get bb=some (.cells [sp,sq,sa,.int .u64 st.latest] false)) (hb:BkV m sp sq sa st) (ok:q8J st) {M2:Mem} (hM:Fr m M2 []) {x:Nat} {q:q0N} (hq:M2.get x=some (.cells q.cells false)) (hi:q∈st.pairs) (t5:Bool) (t7 t8 t9:AV) :
  D27.gor 192514 [.ptr (some ⟨bb,0⟩),.ptr (some ⟨x,0⟩),.bool t5,t7,t8,t9] M2 =
   if (t5&&(decide (q.x∈names st)&&(decide (q.y∈names st)&&(!decide (q.x=q.y)&&(decide (q2Z q.rate q.q1h=0)&&(decide (0<=q.inx.val)&&decide (q.q18.val<=0)))))))=true then D27.gor 192515 [.ptr (some ⟨bb,0⟩),t7,t8,t9] M2 else some (.bool false,M2):=by
 have okq:=ok.q q hi;have hX:=q3T (H:=H27) rfl hb ok.small st.latest q.x M2 hM;have hY:=q3T (H:=H27) rfl hb ok.small st.latest q.y M2 hM;have lB:ldN M2 (.ptr (some ⟨bb,0⟩)) 4=some (.agg [sp,sq,sa,.int .u64 st.latest]):=q0A (hM.get h1 (by simp)) rfl;have a2:∀j:Nat,ld1 M2 (.ptr (some ⟨x,j⟩))=q.cells[j]?:=fun j=>q0g hq
 have l2:ldN M2 (.ptr (some ⟨x,2⟩)) 3=some (.agg (q0u q.rate q.q1h)):=by rw[q00 hq (by simp)];rfl
 have l5:ldN M2 (.ptr (some ⟨x,5⟩)) 2=some (.agg q.inx.cells):=by rw[q00 hq (by simp)];rfl
 have l7:ldN M2 (.ptr (some ⟨x,7⟩)) 2=some (.agg q.q18.cells):=by rw[q00 hq (by simp)];rfl
 have rr:=q8d (H:=H27) rfl okq.1 q.q1h M2;have g5:=q6v (H:=H27) rfl okq.2.1 M2;have g7:=q6v (H:=H27) rfl okq.2.2.1 M2;have e5:=j24 q.inx.val;have e7:=a4e q.q18.val;show _=if (t5&&(decide (q.x∈st.q0b.map (·.name))&&(decide (q.y∈st.q0b.map (·.name))&&_)))=true then _ else _
 simp only[q0N.cells]at a2;cases t5 with
 |false=>simp only[q3c (H:=H27),T.q9T,p1,q1,p2,q0a,ifV,unA,q0e,xbf,Bool.false_and,xbq,if_false]
 |true=>
  cases hx:decide (q.x∈st.q0b.map (·.name)) with
  |false=>
   rw[hx]at hX;simp only[q3c (H:=H27),T.q9T,p1,q1,p2,q0a,ifV,unA,q0e,xbt,lB,a2,hX,xbf,Bool.true_and,Bool.false_and,xbq,if_false]
  |true=>
   rw[hx]at hX;cases hy:decide (q.y∈st.q0b.map (·.name)) with
   |false=>
    rw[hy]at hY;simp only[q3c (H:=H27),T.q9T,p1,q1,p2,q0a,ifV,unA,q0e,xbt,lB,a2,hX,hY,xbf,Bool.true_and,Bool.false_and,xbq,if_false]
   |true=>
    rw[hy]at hY;by_cases hxy:q.x=q.y
    ·simp only[q3c (H:=H27),T.q9T,p1,q1,p2,q0a,ifV,unA,q0e,xbt,lB,a2,hX,hY,dt hxy,Bool.true_and,Bool.false_and,xbq,if_false]
    ·by_cases hr:q2Z q.rate q.q1h=0
     ·rw[hr]at rr;cases h0:decide (0<=q.inx.val) with
      |false=>
       rw[h0]at e5;simp only[q3c (H:=H27),T.q9T,p1,q1,p2,q0a,ifV,unA,q0e,xbt,xbf,lB,a2,hX,hY,df hxy,l2,rr,decide_true,l5,g5,e5,dt hr,Bool.true_and,Bool.false_and,xbq,if_false]
      |true=>
       rw[h0]at e5;cases h7:decide (q.q18.val<=0) with
       |false=>
        rw[h7]at e7;simp only[q3c (H:=H27),T.q9T,p1,q1,p2,q0a,ifV,unA,q0e,xbt,xbf,lB,a2,hX,hY,df hxy,l2,rr,decide_true,l5,g5,e5,l7,g7,e7,dt hr,Bool.and_false,xbq,if_false]
       |true=>
        rw[h7]at e7;simp only[q3c (H:=H27),T.q9T,p1,q1,p2,q0a,ifV,unA,q0e,xbt,xbf,lB,a2,hX,hY,df hxy,l2,rr,decide_true,l5,g5,e5,l7,g7,e7,dt hr,Bool.and_self,if_true]
     ·simp only[q3c (H:=H27),T.q9T,p1,q1,p2,q0a,ifV,unA,q0e,xbt,xbf,lB,a2,hX,hY,df hxy,l2,rr,df hr,Bool.true_and,Bool.false_and,xbq,if_false]
theorem j2P {sp sq sa:AV} (h1:m.get bb=some (.cells [sp,sq,sa,.int .u64 st.latest] false)) (hb:BkV m sp sq sa st) (ok:q8J st):∀(d i:Nat) (M:Mem),i+d=st.pairs.length->Fr m M []->
  Res M (D27.gor 192512 [.ptr (some ⟨bb,0⟩),sq,.int .i64 (st.pairs.length:Int),.int .i64 (i:Int)] M) (.bool (q3v (z19 st) d i)):=by
 obtain⟨e,he,hs⟩:=uQ;have hn:=ok.small.2.1;intro d;induction d with
 |zero=>
  intro i M hi hM;have:i=st.pairs.length:=by omega
  subst this;simp only[q5K (H:=H27),T.z7x,p2,q0a,wp,df (show ¬((st.pairs.length:Nat):Int)<(st.pairs.length:Int) by omega),j45 (H:=H27),T.a8b,wp];exact Res.eq (Fr.refl _) rfl
 |succ d ih=>
  intro i M hi hM;have hlt:i<st.pairs.length:=by omega
  obtain⟨bs,o,_,x2,_,_,x5⟩:=(hb.q.q0h hM).ixT he hs (i:=i) (by rw[xlm];exact hlt);rw[xgm]at x5;obtain⟨q,hq⟩:∃q,q=st.pairs[i]:=⟨_,rfl⟩;have mq:q∈st.pairs:=by rw[hq];exact List.getElem_mem hlt
  rw[<-hq]at x5;obtain⟨M2,hM2⟩:∃M2,M2=M.lay (.cells q.cells false):=⟨_,rfl⟩;have f2:Fr M M2 []:=by rw[hM2];exact(Fr.refl M).lay _
  have F2:Fr m M2 []:=hM.step0 f2;have s2:stV (M.lay (.cells [.str [],.str [],.int .i64 0,.int .u64 0,.int .i64 0,.int .i64 0,.int .u64 0,.int .i64 0,.int .u64 0] false)) (.ptr (some ⟨M.next,0⟩)) (.agg q.cells) 9=some M2:=by rw[q0X (n:=9) (q0f M _) rfl rfl rfl,q1c,hM2]
  have g2:M2.get M.next=some (.cells q.cells false):=by rw[hM2];exact q0f M _
  have a2:∀j:Nat,ld1 M2 (.ptr (some ⟨M.next,j⟩))=q.cells[j]?:=fun j=>q0g g2
  have b2:∀j:Nat,ld1 M2 (.ptr (some ⟨bb,j⟩))=[sp,sq,sa,AV.int .u64 st.latest][j]?:=fun j=>q0g (F2.get h1 (by simp))
  have en:=fun t5=>j6Q h1 hb ok F2 g2 mq t5 sq (.int .i64 (st.pairs.length:Int)) (.int .i64 (i:Int))
  have hok:z19 st i=z3z st i q:=by unfold z19;rw[xgq hlt,<-hq]
  have nx:D27.gor 192515 [.ptr (some ⟨bb,0⟩),sq,.int .i64 (st.pairs.length:Int),.int .i64 (i:Int)] M2=D27.gor 192512 [.ptr (some ⟨bb,0⟩),sq,.int .i64 (st.pairs.length:Int),.int .i64 ((i+1:Nat):Int)] M2:=by
   simp only[j44 (H:=H27),T.a8a,p2,wp,show (i:Int)+1=((i+1:Nat):Int) by omega,wrap_i64 (n:=((i+1:Nat):Int)) (by omega) (by omega)]
  have rd:D27.gor 192512 [.ptr (some ⟨bb,0⟩),sq,.int .i64 (st.pairs.length:Int),.int .i64 (i:Int)] M=if z3z st i q=true then D27.gor 192512 [.ptr (some ⟨bb,0⟩),sq,.int .i64 (st.pairs.length:Int),.int .i64 ((i+1:Nat):Int)] M2 else some (.bool false,M2):=by
   rw[<-nx];unfold z3z;simp only[q0N.cells]at x5 s2 a2;by_cases h0:i=0
   ·have hp:q6V st.pairs i (fun r=>q0c r.x q.x||(decide (r.x=q.x)&&q0c r.y q.y))=true:=by unfold q6V;rw[dt h0,Bool.true_or]
    rw[hp,<-en true];simp only[q5K (H:=H27),T.z7x,p2,q0a,wp,dt (show (i:Int)<(st.pairs.length:Int) by omega)];simp only[q7f (H:=H27),T.j1w,p2,q1,pB,p1,ifV,q0e,x2,x5,s2,dt (show (i:Int)=0 by omega)]
   ·obtain⟨bs',o',_,y2,y3,_,_⟩:=(hb.q.q0h F2).ixT he hs (i:=i-1) (by rw[xlm];omega);have y0:=y3 0 (by omega);have y1:=y3 1 (by omega);rw[xgm]at y0 y1;obtain⟨r,hr⟩:∃r,r=st.pairs[i-1]'(by omega):=⟨_,rfl⟩;have hr2:st.pairs[i-1]? = some r:=by rw[xgq (by omega),hr]
    rw[<-hr]at y0 y1;simp only[ge,q0N.cells,xna]at y0 y1;have hp:q6V st.pairs i (fun r=>q0c r.x q.x||(decide (r.x=q.x)&&q0c r.y q.y))=(q0c r.x q.x||(decide (r.x=q.x)&&q0c r.y q.y)):=by unfold q6V;rw[df h0,Bool.false_or,hr2]
    have w1:IntKind.wrap .i64 ((i:Int)-1)=((i-1:Nat):Int):=by rw[wrap_i64 (by omega) (by omega)];omega
    rcases Bool.eq_false_or_eq_true (q0c r.x q.x) with hl|hl
    ·have ev:(q0c r.x q.x||decide (r.x=q.x)&&q0c r.y q.y)=true:=by rw[hl];rfl
     rw[hp.trans ev,<-en true];simp only[q5K (H:=H27),T.z7x,p2,q0a,wp,dt (show (i:Int)<(st.pairs.length:Int) by omega)];simp only[q7f (H:=H27),T.j1w,p2,q1,pB,p1,ifV,q0e,x2,x5,s2,df (show ¬(i:Int)=0 by omega),b2,w1,y2,y0,a2,hl]
    ·have ev:(q0c r.x q.x||decide (r.x=q.x)&&q0c r.y q.y)=(decide (r.x=q.x)&&q0c r.y q.y):=by rw[hl];rfl
     by_cases hx:r.x=q.x
     ·have ev2:(decide (r.x=q.x)&&q0c r.y q.y)=q0c r.y q.y:=by rw[dt hx];rfl
      rw[(hp.trans ev).trans ev2,<-en (q0c r.y q.y)];simp only[q5K (H:=H27),T.z7x,p2,q0a,wp,dt (show (i:Int)<(st.pairs.length:Int) by omega)];simp only[q7f (H:=H27),T.j1w,p2,q1,pB,p1,ifV,q0e,x2,x5,s2,df (show ¬(i:Int)=0 by omega),b2,w1,y2,y0,y1,a2,hl,dt hx]
     ·have ev2:(decide (r.x=q.x)&&q0c r.y q.y)=false:=by rw[df hx];rfl
      rw[(hp.trans ev).trans ev2,<-en false];simp only[q5K (H:=H27),T.z7x,p2,q0a,wp,dt (show (i:Int)<(st.pairs.length:Int) by omega)];simp only[q7f (H:=H27),T.j1w,p2,q1,pB,p1,ifV,q0e,x2,x5,s2,df (show ¬(i:Int)=0 by omega),b2,w1,y2,y0,a2,hl,df hx]
  rw[rd,q3v,hok];cases hg:z3z st i q with
  |true=>
   rw[if_pos rfl,Bool.true_and];exact(ih (i+1) M2 (by omega) F2).step f2
  |false=>
   rw[if_neg (by decide),Bool.false_and];exact Res.eq f2 rfl
theorem a3T {sp sq sa:AV} (hb:BkV m sp sq sa st) (ok:q8J st):Res m (run E27 (.fn 47) [.agg [sp,sq,sa,.int .u64 st.latest]] m) (.bool (q3v (z19 st) st.pairs.length 0)):=by
 obtain⟨M,hM⟩:∃M,M=m.lay (.cells [sp,sq,sa,.int .u64 st.latest] false):=⟨_,rfl⟩;have f1:Fr m M []:=by rw[hM];exact(Fr.refl m).lay _
 have g1:M.get m.next=some (.cells [sp,sq,sa,.int .u64 st.latest] false):=by rw[hM];exact q0f m _
 have a3:∀i:Nat,ld1 M (.ptr (some ⟨m.next,i⟩))=[sp,sq,sa,.int .u64 st.latest][i]?:=fun i=>q0g g1
 obtain⟨e,he,hs⟩:=uQ;have hlen:=hb.q.q2s he;rw[xlm]at hlen;have lo:=j2P g1 (hb.q0h f1) ok st.pairs.length 0 M (by omega) (Fr.refl _);simp only[Int.natCast_zero]at lo;simp only[a5C (H:=H27) rfl,T.f47,p1,q1,q0K,q0e,AV.cells,on1,lcs,ge,if_true,xom,hb.p.one,hb.q.one,hb.a.one,<-hM,a3,hlen];exact lo.step f1
def q5R (st:LSt) (i:Nat):Int:=match st.q0p[i-1]? with|some x=>if i=0 then 0 else x.id|none=>0
theorem z7Y {sp sq sa:AV} (h1:m.get bb=some (.cells [sp,sq,sa,.int .u64 st.latest] false)) (hb:BkV m sp sq sa st) (ok:q8J st):∀(d i:Nat) (M:Mem),i+d=st.q0p.length->Fr m M []->
  Res M (D27.gor 196608 [.ptr (some ⟨bb,0⟩),.int .u64 (q5R st i),sa,.int .i64 (st.q0p.length:Int),.int .i64 (i:Int)] M) (.bool (q3v (z18 st) d i&&decide (st.latest<=72057594037927935))):=by
 obtain⟨e,he,hs⟩:=uA;have hn:=ok.small.2.2;intro d;induction d with
 |zero=>
  intro i M hi hM;have:i=st.q0p.length:=by omega
  have b2:∀j:Nat,ld1 M (.ptr (some ⟨bb,j⟩))=[sp,sq,sa,AV.int .u64 st.latest][j]?:=fun j=>q0g (hM.get h1 (by simp))
  subst this;simp only[z5D (H:=H27),T.a1h,p2,q0a,df (show ¬((st.q0p.length:Nat):Int)<(st.q0p.length:Int) by omega),j48 (H:=H27),T.a8e,p1,q1,q0e,b2];exact Res.eq (Fr.refl _) (by simp[q3v])
 |succ d ih=>
  intro i M hi hM;have hlt:i<st.q0p.length:=by omega
  obtain⟨bs,o,_,x2,_,_,x5⟩:=(hb.a.q0h hM).ixT he hs (i:=i) (by rw[xlm];exact hlt);rw[xgm]at x5;obtain⟨a,ha⟩:∃a,a=st.q0p[i]:=⟨_,rfl⟩;have ma:a∈st.q0p:=by rw[ha];exact List.getElem_mem hlt
  have oka:=ok.a a ma;rw[<-ha]at x5;obtain⟨M2,hM2⟩:∃M2,M2=M.lay (.cells a.cells false):=⟨_,rfl⟩;have f2:Fr M M2 []:=by rw[hM2];exact(Fr.refl M).lay _
  have F2:Fr m M2 []:=hM.step0 f2;have s2:stV (M.lay (.cells [.int .u64 0,.str [],.int .i64 0,.int .u64 0] false)) (.ptr (some ⟨M.next,0⟩)) (.agg a.cells) 4=some M2:=by rw[q0X (n:=4) (q0f M _) rfl rfl rfl,q1c,hM2]
  have g2:M2.get M.next=some (.cells a.cells false):=by rw[hM2];exact q0f M _
  have a2:∀j:Nat,ld1 M2 (.ptr (some ⟨M.next,j⟩))=a.cells[j]?:=fun j=>q0g g2
  have l2:ldN M2 (.ptr (some ⟨M.next,2⟩)) 2=some (.agg a.bal.cells):=by rw[q00 g2 (by simp)];rfl
  have b2:∀j:Nat,ld1 M2 (.ptr (some ⟨bb,j⟩))=[sp,sq,sa,AV.int .u64 st.latest][j]?:=fun j=>q0g (F2.get h1 (by simp))
  have lB:ldN M2 (.ptr (some ⟨bb,0⟩)) 4=some (.agg [sp,sq,sa,.int .u64 st.latest]):=q0A (F2.get h1 (by simp)) rfl;have hX:=q3T (H:=H27) rfl hb ok.small st.latest a.q1S M2 F2;have sg:=q6v (H:=H27) rfl oka.1 M2;have e5:=j24 a.bal.val;have hok:z18 st i=a1Q st i a:=by unfold z18;rw[xgq hlt,<-ha]
  have hp1:q5R st (i+1)=a.id:=by unfold q5R;rw[Nat.add_sub_cancel,xgq hlt,<-ha];simp
  have ih':=ih (i+1) M2 (by omega) F2;rw[hp1]at ih';rw[q3v,hok];show Res M _ (.bool ((decide (q5R st i<a.id)&&(decide (a.id<=st.latest)&&(decide (a.q1S∈st.q0b.map (·.name))&&decide (0<=a.bal.val)))&&_)&&_));have st1:D27.gor 196608 [.ptr (some ⟨bb,0⟩),.int .u64 (q5R st i),sa,.int .i64 (st.q0p.length:Int),.int .i64 (i:Int)] M=D27.gor 196609 [.ptr (some ⟨bb,0⟩),.int .u64 (q5R st i),sa,.int .i64 (st.q0p.length:Int),.int .i64 (i:Int)] M:=by
   simp only[z5D (H:=H27),T.a1h,p2,q0a,wp,dt (show (i:Int)<(st.q0p.length:Int) by omega)]
  rw[st1];obtain⟨pv,hpv⟩:∃pv,pv=q5R st i:=⟨_,rfl⟩;rw[<-hpv];simp only[q1b.cells]at x5 s2 a2;by_cases h1':a.id<=pv
  ·simp only[df (show ¬pv<a.id by omega),Bool.false_and];simp only[q5L (H:=H27),T.z7y,p2,q1,pB,p1,q0a,ifV,unA,q0e,x2,x5,s2,a2,dt h1'];exact Res.eq f2 rfl
  ·rw[dt (show pv<a.id by omega),Bool.true_and];by_cases h2:st.latest<a.id
   ·simp only[df (show ¬a.id<=st.latest by omega),Bool.false_and];simp only[q5L (H:=H27),T.z7y,p2,q1,pB,p1,q0a,ifV,unA,q0e,x2,x5,s2,a2,b2,df h1',dt h2];exact Res.eq f2 rfl
   ·rw[dt (show a.id<=st.latest by omega),Bool.true_and];cases hx:decide (a.q1S∈st.q0b.map (·.name)) with
    |false=>
     rw[hx]at hX;simp only[Bool.false_and];simp only[q5L (H:=H27),T.z7y,p2,q1,pB,p1,q0a,ifV,unA,q0e,x2,x5,s2,a2,b2,df h1',df h2,lB,hX,xbf];exact Res.eq f2 rfl
    |true=>
     rw[hx]at hX;rw[Bool.true_and];cases h0:decide (0<=a.bal.val) with
     |false=>
      rw[h0]at e5;simp only[Bool.false_and];simp only[q5L (H:=H27),T.z7y,p2,q1,pB,p1,q0a,ifV,unA,q0e,x2,x5,s2,a2,b2,df h1',df h2,lB,hX,xbt,xbf,l2,sg,e5];exact Res.eq f2 rfl
     |true=>
      rw[h0]at e5;rw[Bool.true_and];simp only[q5L (H:=H27),T.z7y,p2,q1,pB,p1,q0a,ifV,unA,q0e,x2,x5,s2,a2,b2,df h1',df h2,lB,hX,xbt,l2,sg,e5];simp only[j46 (H:=H27),T.a8c,p1,q1,q0e,a2];simp only[j47 (H:=H27),T.a8d,p2,wp,show (i:Int)+1=((i+1:Nat):Int) by omega,wrap_i64 (n:=((i+1:Nat):Int)) (by omega) (by omega)];exact ih'.step f2
theorem j6G {sp sq sa:AV} (hb:BkV m sp sq sa st) (ok:q8J st):Res m (run E27 (.fn 48) [.agg [sp,sq,sa,.int .u64 st.latest]] m) (.bool (q3v (z18 st) st.q0p.length 0&&decide (st.latest<=72057594037927935))):=by
 obtain⟨M,hM⟩:∃M,M=m.lay (.cells [sp,sq,sa,.int .u64 st.latest] false):=⟨_,rfl⟩;have f1:Fr m M []:=by rw[hM];exact(Fr.refl m).lay _
 have g1:M.get m.next=some (.cells [sp,sq,sa,.int .u64 st.latest] false):=by rw[hM];exact q0f m _
 have a3:∀i:Nat,ld1 M (.ptr (some ⟨m.next,i⟩))=[sp,sq,sa,.int .u64 st.latest][i]?:=fun i=>q0g g1
 obtain⟨e,he,hs⟩:=uA;have hlen:=hb.a.q2s he;rw[xlm]at hlen;have lo:=z7Y g1 (hb.q0h f1) ok st.q0p.length 0 M (by omega) (Fr.refl _);have hp0:q5R st 0=0:=by unfold q5R;split<;>simp
 rw[hp0]at lo;simp only[Int.natCast_zero]at lo;simp only[a5D (H:=H27) rfl,T.f48,p1,q1,q0K,q0e,AV.cells,on1,lcs,ge,if_true,xom,hb.p.one,hb.q.one,hb.a.one,<-hM,a3,hlen];exact lo.step f1
end
end
end Go.Proofs.YtlginbmjiecglaaGreatDoor
