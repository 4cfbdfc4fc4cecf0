/- Texts of one claim, put together. -/
import Derived.Test.YtlginbmjiecglaaGreatDoorQ26
import Derived.Handed
import Derived.HandedShaped
import Derived.OpenShut
import Derived.LaidMore
import Derived.Stop.Joined
namespace Go.Proofs.YtlginbmjiecglaaGreatDoor
section
set_option maxRecDepth 16000
set_option maxHeartbeats 2000000
open Go Go.Abs
def z7k:List AV:=[.str j2h,.str j2i,.str j2j,.str [101,117,114]]
theorem z4w {M:Mem} {ro:Bool} (hc:M.get 0=some (.cells z7k ro)) {i:Int} (h0:0<=i) (h1:i<4):∃s j,ixA 1 4 ⟨0,0⟩ i=some (.ptr (some ⟨0,j⟩))/\ld1 M (.ptr (some ⟨0,j⟩))=some (.str s)/\s.length<=140737488355328:=by
 have:i=0\/i=1\/i=2\/i=3:=by omega
 rcases this with rfl|rfl|rfl|rfl
 ·exact⟨_,0,by simp[ixA],(q0g hc).trans rfl,by decide⟩
 ·exact⟨_,1,by simp[ixA],(q0g hc).trans rfl,by decide⟩
 ·exact⟨_,2,by simp[ixA],(q0g hc).trans rfl,by decide⟩
 ·exact⟨_,3,by simp[ixA],(q0g hc).trans rfl,by decide⟩
theorem b3d {u v:Int} (h0:0<=u) (h1:u<4) (h2:0<=v) (h3:v<4):0<=u*v/\u*v<=9:=by
 have:u=0\/u=1\/u=2\/u=3:=by omega
 rcases this with rfl|rfl|rfl|rfl<;>omega
def a4z:List AV:=[.int .i64 0,.int .u64 0,.int .u64 0,.str [],.str [],.int .i64 0,.int .u64 0,.int .i64 0,.int .i64 0,.bool false,.bool false]
section
variable {M:Mem} {B R:Nat} {t:q2k}
theorem z2s (gB:M.get B=some (.cells t.cells false)) (gR:M.get R=some (.cells a4z false)):∃M',D30.gor 98306 [.ptr (some ⟨B,0⟩),.ptr (some ⟨R,0⟩)] M=some (.agg t.cells,M')/\Fr M M' [R]:=by
 have l:=q0A (n:=11) gB rfl;have s:=q0X (n:=11) (v:=t.cells) gR rfl rfl rfl;obtain⟨M',hM'⟩:∃M',M'=M.put R (some (.cells t.cells false)):=⟨_,rfl⟩;rw[<-hM']at s;have g2:M'.get R=some (.cells t.cells false):=by rw[hM'];exact q0v gR
 have l2:=q0A (n:=11) g2 rfl;refine⟨M',?_,by rw[hM'];exact Fr.put _ _ _⟩;simp only[j4l (H:=H30),T.a7E,q1,q0H,q0I,wp,l,s,l2]
theorem z2t (ok:t.ok) (gB:M.get B=some (.cells t.cells false)) (gR:M.get R=some (.cells a4z false)) (hBR:B≠R) :
  ∃t' M',q2k.ok t'/\D30.gor 98305 [.ptr (some ⟨B,0⟩),.ptr (some ⟨R,0⟩)] M=some (.agg t'.cells,M')/\Fr M M' [B,R]:=by
 have a0:∀i:Nat,ld1 M (.ptr (some ⟨B,i⟩))=t.cells[i]?:=fun i=>q0g gB
 obtain⟨k,hk⟩:∃k,k=t.what % 15:=⟨_,rfl⟩;have pk:=fun M=>q1k (H:=H30) rfl M t.what (n:=15) (by omega) (by omega)
 simp only[<-hk]at pk;by_cases h9:k=9
 ·have p1:=fun M=>q1k (H:=H30) rfl M t.n (n:=100000) (by omega) (by omega)
  have p2:=fun M=>q1k (H:=H30) rfl M t.n (n:=6) (by omega) (by omega)
  obtain⟨c,hc⟩:∃c,c=1+t.n % 100000:=⟨_,rfl⟩;have wc:IntKind.wrap .i64 (1+t.n % 100000)=c:=by rw[wrap_i64 (by omega) (by omega),hc]
  have o1:=fun M=>a3r (H:=H30) rfl (n:=c) (by omega) (by omega) M
  obtain⟨t',ht'⟩:∃t':q2k,t'={t with d:=Wd.of c,sc:=t.n % 6}:=⟨_,rfl⟩
  have ok':t'.ok:=by rw[ht'];exact⟨ok.w,ok.a,ok.b,ok.x,ok.y,Wd.q25 (q0V (by omega) (by omega)),ok.n⟩
  obtain⟨M1,hM1⟩:∃M1,M1=M.put B (some (.cells t'.cells false)):=⟨_,rfl⟩;have s1:stV M (.ptr (some ⟨B,5⟩)) (.agg [.int .i64 (Wd.of c).hi,.int .u64 (Wd.of c).lo,.int .i64 (t.n % 6)]) 3=some M1:=by
   rw[hM1,ht'];exact q1l gB (q1e rfl) rfl (by simp[q2k.cells])
  have g1:M1.get B=some (.cells t'.cells false):=by rw[hM1];exact q0v gB
  have f1:Fr M M1 [B]:=by rw[hM1];exact Fr.put _ _ _
  obtain⟨M2,e2,f2⟩:=z2s g1 (f1.get gR (by simp;exact fun e=>hBR e.symm))
  refine⟨t',M2,ok',?_,(f1.mono (by simp)).step f2 (by simp)⟩;simp only[q2k.cells]at a0;simp only[z5a (H:=H30),T.a0X,p1,q1,p2,q0o,AV.cells,Nat.reduceAdd,Nat.reduceLeDiff,q0a,q0E,Wd.cells,AV.one,lcd,a0,pk,dt h9,wc,o1,s1,e2]
 ·obtain⟨M2,e2,f2⟩:=z2s gB gR;refine⟨t,M2,ok,?_,f2.mono (by simp)⟩;simp only[q2k.cells]at a0;simp only[z5a (H:=H30),T.a0X,p1,q1,p2,q0o,AV.cells,Nat.reduceAdd,q0a,q0E,a0,pk,df h9,e2]
theorem j26 {m:Mem} {rb:Nat} {st:LSt} {G:List Nat} (h:q0L m rb st G) (w:LWf st) (f:Fr m M []) (hB:m.next<=B) {ro:Bool} (hc:M.get 0=some (.cells z7k ro)) (hCB:0≠B) (ok:t.ok) (gB:M.get B=some (.cells t.cells false)) (gR:M.get R=some (.cells a4z false)) (hBR:B≠R) :
  ∃t' M',q2k.ok t'/\D30.gor 98304 [.ptr (some ⟨rb,0⟩),.ptr (some ⟨B,0⟩),.ptr (some ⟨R,0⟩)] M=some (.agg t'.cells,M')/\Fr M M' [B,R]:=by
 have okn:=ok.n;have oka:=ok.a;have okb:=ok.b;have z5:(5:Int)≠0:=by omega
 have z4:(4:Int)≠0:=by omega
 have a0:∀i:Nat,ld1 M (.ptr (some ⟨B,i⟩))=t.cells[i]?:=fun i=>q0g gB
 obtain⟨A,hA⟩:∃A,A=1+t.a % 5:=⟨_,rfl⟩;have ra:t.a.tmod 5=t.a % 5:=Int.tmod_eq_emod_of_nonneg oka.1;have wA:IntKind.wrap .u64 (1+t.a % 5)=A:=by rw[wrap_u64 (by omega) (by omega),hA]
 obtain⟨t1,ht1⟩:∃t1:q2k,t1={t with a:=A}:=⟨_,rfl⟩
 obtain⟨M1,hM1⟩:∃M1,M1=M.put B (some (.cells t1.cells false)):=⟨_,rfl⟩;have s1:stV M (.ptr (some ⟨B,1⟩)) (.int .u64 A) 1=some M1:=by rw[hM1,ht1];exact q1l (vs:=[.int .u64 A]) gB rfl rfl (by simp[q2k.cells])
 have g1:M1.get B=some (.cells t1.cells false):=by rw[hM1];exact q0v gB
 have f1:Fr M M1 [B]:=by rw[hM1];exact Fr.put _ _ _
 have a1:∀i:Nat,ld1 M1 (.ptr (some ⟨B,i⟩))=t1.cells[i]?:=fun i=>q0g g1
 obtain⟨A',hA'⟩:∃A',A'=1+t.b % 5:=⟨_,rfl⟩;have rb':t.b.tmod 5=t.b % 5:=Int.tmod_eq_emod_of_nonneg okb.1;have wA':IntKind.wrap .u64 (1+t.b % 5)=A':=by rw[wrap_u64 (by omega) (by omega),hA']
 obtain⟨t2,ht2⟩:∃t2:q2k,t2={t1 with b:=A'}:=⟨_,rfl⟩
 obtain⟨M2,hM2⟩:∃M2,M2=M1.put B (some (.cells t2.cells false)):=⟨_,rfl⟩;have s2:stV M1 (.ptr (some ⟨B,2⟩)) (.int .u64 A') 1=some M2:=by rw[hM2,ht2];exact q1l (vs:=[.int .u64 A']) g1 rfl rfl (by simp[q2k.cells])
 have g2:M2.get B=some (.cells t2.cells false):=by rw[hM2];exact q0v g1
 have f2:Fr M M2 [B]:=f1.step (by rw[hM2];exact Fr.put _ _ _:Fr M1 M2 [B]) (by simp);have a2:∀i:Nat,ld1 M2 (.ptr (some ⟨B,i⟩))=t2.cells[i]?:=fun i=>q0g g2
 have p20:=fun M=>q1k (H:=H30) rfl M t.n (n:=20) (by omega) (by omega)
 have q20:=q2D (P:=Tryz.prog) 3 .i64 t.n 20 (by omega);have q7:=q2D (P:=Tryz.prog) 3 .i64 t.n 7 (by omega);rw[q9c okn.1 okn.2 (by omega)]at q20 q7;have p4:=fun M=>q1k (H:=H30) rfl M (t.n.tdiv 20) (n:=4) (by omega) (by omega)
 have p3:=fun M=>q1k (H:=H30) rfl M (t.n.tdiv 7) (n:=3) (by omega) (by omega)
 obtain⟨u,hu⟩:∃u,u=t.n % 20 % 4:=⟨_,rfl⟩;have ru:(t.n % 20).tmod 4=u:=by rw[hu];exact Int.tmod_eq_emod_of_nonneg (by omega)
 obtain⟨v,hv⟩:∃v,v=t.n.tdiv 20 % 4:=⟨_,rfl⟩;simp only[<-hv]at p4;obtain⟨mu0,mu1⟩:=b3d (u:=u) (v:=v) (by omega) (by omega) (by omega) (by omega);have wuv:IntKind.wrap .i64 (u*v)=u*v:=wrap_i64 (by omega) (by omega);obtain⟨i1,hi1⟩:∃i1,i1=(u*v) % 4:=⟨_,rfl⟩;have ri:(u*v).tmod 4=i1:=by rw[hi1];exact Int.tmod_eq_emod_of_nonneg mu0
 obtain⟨s3n,j3,x3,y3,z3⟩:=z4w (f2.get hc (by simp;omega)) (i:=i1) (by omega) (by omega);obtain⟨t3,ht3⟩:∃t3:q2k,t3={t2 with x:=s3n}:=⟨_,rfl⟩
 obtain⟨M3,hM3⟩:∃M3,M3=M2.put B (some (.cells t3.cells false)):=⟨_,rfl⟩;have s3:stV M2 (.ptr (some ⟨B,3⟩)) (.str s3n) 1=some M3:=by rw[hM3,ht3];exact q1l (vs:=[.str s3n]) g2 rfl rfl (by simp[q2k.cells])
 have g3:M3.get B=some (.cells t3.cells false):=by rw[hM3];exact q0v g2
 have f3:Fr M M3 [B]:=f2.step (by rw[hM3];exact Fr.put _ _ _:Fr M2 M3 [B]) (by simp);have a3:∀i:Nat,ld1 M3 (.ptr (some ⟨B,i⟩))=t3.cells[i]?:=fun i=>q0g g3
 obtain⟨i2,hi2⟩:∃i2,i2=t.n.tdiv 7 % 3:=⟨_,rfl⟩;simp only[<-hi2]at p3;obtain⟨s4n,j4,x4,y4,z4'⟩:=z4w (f3.get hc (by simp;omega)) (i:=i2) (by omega) (by omega);obtain⟨t4,ht4⟩:∃t4:q2k,t4={t3 with y:=s4n}:=⟨_,rfl⟩
 obtain⟨M4,hM4⟩:∃M4,M4=M3.put B (some (.cells t4.cells false)):=⟨_,rfl⟩;have s4:stV M3 (.ptr (some ⟨B,4⟩)) (.str s4n) 1=some M4:=by rw[hM4,ht4];exact q1l (vs:=[.str s4n]) g3 rfl rfl (by simp[q2k.cells])
 have g4:M4.get B=some (.cells t4.cells false):=by rw[hM4];exact q0v g3
 have f4:Fr M M4 [B]:=f3.step (by rw[hM4];exact Fr.put _ _ _:Fr M3 M4 [B]) (by simp);have a4:∀i:Nat,ld1 M4 (.ptr (some ⟨B,i⟩))=t4.cells[i]?:=fun i=>q0g g4
 have am:=fun M=>z8I (H:=H30) rfl okn.1 okn.2 M
 obtain⟨t5,ht5⟩:∃t5:q2k,t5={t4 with d:=(q19 t.n).1,sc:=(q19 t.n).2}:=⟨_,rfl⟩
 obtain⟨M5,hM5⟩:∃M5,M5=M4.put B (some (.cells t5.cells false)):=⟨_,rfl⟩;have s5:stV M4 (.ptr (some ⟨B,5⟩)) (.agg (q0u (q19 t.n).1 (q19 t.n).2)) 3=some M5:=by rw[hM5,ht5];exact q1l g4 (q1e rfl) rfl (by simp[q2k.cells])
 have g5:M5.get B=some (.cells t5.cells false):=by rw[hM5];exact q0v g4
 have f5:Fr M M5 [B]:=f4.step (by rw[hM5];exact Fr.put _ _ _:Fr M4 M5 [B]) (by simp);have a5:∀i:Nat,ld1 M5 (.ptr (some ⟨B,i⟩))=t5.cells[i]?:=fun i=>q0g g5
 have ok5:t5.ok:=by rw[ht5,ht4,ht3,ht2,ht1];exact⟨ok.w,⟨by simp only;omega,by simp only;omega⟩,⟨by simp only;omega,by simp only;omega⟩,z3,z4',q8M _,ok.n⟩
 have hn5:t5.n=t.n/\t5.fits=t.fits/\t5.a=A:=by rw[ht5,ht4,ht3,ht2,ht1];exact⟨rfl,rfl,rfl⟩
 have R5:=f5.get gR (by simp;exact fun e=>hBR e.symm)
 cases hf:t.fits with
 |false=>
  obtain⟨t',M',o',e',F'⟩:=z2t ok5 g5 R5 hBR;refine⟨t',M',o',?_,(f5.mono (by simp)).step F' (by simp)⟩;simp only[ht5,ht4,ht3,ht2,ht1,q2k.cells,hf]at a0 a1 a2 a3 a4 a5;simp only[z4Z (H:=H30),T.a0W,p1,q1,p2,pB,q0d,q0a,Nat.reduceAdd,q0F,a0,q2a _ _ _ _ z5,ra,wA,s1,a1,rb',wA',s2,a2,p20,q2a _ _ _ _ z4,ru,q20,p4,wuv,ri,x3,y3,s3,a3,q7,p3,x4,y4,s4,a4,am,s5,a5,if_true,e']
 |true=>
  have ba:=a3G (H:=H30) rfl h w A M5 (f.step f5 (by simpa using hB));obtain⟨M6,hM6⟩:∃M6,M6=M5.lay (.cells (q0u (q0D st A).1 (q0D st A).2.1) false):=⟨_,rfl⟩;have s6:stV (M5.lay (.cells [.int .i64 0,.int .u64 0,.int .i64 0] false)) (.ptr (some ⟨M5.next,0⟩)) (.agg (q0u (q0D st A).1 (q0D st A).2.1)) 3=some M6:=by rw[q0X (n:=3) (q0f M5 _) rfl rfl rfl,q1c,hM6]
  have f6:Fr M5 M6 []:=by rw[hM6];exact(Fr.refl _).lay _
  have l6:∀i:Nat,ld1 M6 (.ptr (some ⟨M5.next,i⟩))=(q0u (q0D st A).1 (q0D st A).2.1)[i]?:=fun i=>q0g (by rw[hM6];exact q0f _ _)
  have g6:=f6.get g5 (by simp);obtain⟨t7,ht7⟩:∃t7:q2k,t7={t5 with sc:=(q0D st A).2.1}:=⟨_,rfl⟩
  obtain⟨M7,hM7⟩:∃M7,M7=M6.put B (some (.cells t7.cells false)):=⟨_,rfl⟩;have s7:stV M6 (.ptr (some ⟨B,7⟩)) (.int .i64 (q0D st A).2.1) 1=some M7:=by rw[hM7,ht7];exact q1l (vs:=[.int .i64 (q0D st A).2.1]) g6 rfl rfl (by simp[q2k.cells])
  have g7:M7.get B=some (.cells t7.cells false):=by rw[hM7];exact q0v g6
  have f7:Fr M6 M7 [B]:=by rw[hM7];exact Fr.put _ _ _
  have ok7:t7.ok:=by rw[ht7];exact⟨ok5.w,ok5.a,ok5.b,ok5.x,ok5.y,ok5.d,ok5.n⟩
  obtain⟨t',M',o',e',F'⟩:=z2t ok7 g7 (f7.get (f6.get R5 (by simp)) (by simp;exact fun e=>hBR e.symm)) hBR
  refine⟨t',M',o',?_,(((f5.step0 f6).step f7 (by simp)).mono (by simp)).step F' (by simp)⟩;simp only[q0u]at l6;simp only[ht5,ht4,ht3,ht2,ht1,q2k.cells,hf]at a0 a1 a2 a3 a4 a5;simp only[z4Z (H:=H30),T.a0W,p1,q1,p2,pB,q0d,q0a,Nat.reduceAdd,q0F,a0,q2a _ _ _ _ z5,ra,wA,s1,a1,rb',wA',s2,a2,p20,q2a _ _ _ _ z4,ru,q20,p4,wuv,ri,x3,y3,s3,a3,q7,p3,x4,y4,s4,a4,am,s5,a5,ba,s6,l6,s7,if_true,e']
end
theorem j64 {m:Mem} {rb:Nat} {st:LSt} {G:List Nat} (h:q0L m rb st G) (w:LWf st) {ro:Bool} (hc:m.get 0=some (.cells z7k ro)) {t:q2k} (ok:t.ok) :
  ∃t',q2k.ok t'/\Res m (run E30 (.fn 24) [.ptr (some ⟨rb,0⟩),.agg t.cells] m) (.agg t'.cells):=by
 obtain⟨M0,hM0⟩:∃M0,M0=m.lay (.cells t.cells false):=⟨_,rfl⟩;obtain⟨M1,hM1⟩:∃M1,M1=M0.lay (.cells a4z false):=⟨_,rfl⟩;have n0:M0.next=m.next+1:=by rw[hM0];rfl
 have f0:Fr m M0 []:=by rw[hM0];exact(Fr.refl _).lay _
 have f1:Fr M0 M1 []:=by rw[hM1];exact(Fr.refl _).lay _
 have g1:M1.get m.next=some (.cells t.cells false):=f1.get (by rw[hM0];exact q0f _ _) (by simp)
 have r1:M1.get (m.next+1)=some (.cells a4z false):=by rw[hM1,<-n0];exact q0f _ _
 have hCL:=Mem.q0x hc;have a1:∀i:Nat,ld1 M1 (.ptr (some ⟨m.next,i⟩))=t.cells[i]?:=fun i=>q0g g1
 cases hn:t.near with
 |false=>
  have l:=q0A (n:=11) g1 rfl;have s:=q0X (n:=11) (v:=t.cells) r1 rfl rfl rfl;obtain⟨M',hM'⟩:∃M',M'=M1.put (m.next+1) (some (.cells t.cells false)):=⟨_,rfl⟩
  rw[<-hM']at s;have g2:M'.get (m.next+1)=some (.cells t.cells false):=by rw[hM'];exact q0v r1
  have l2:=q0A (n:=11) g2 rfl;refine⟨t,ok,M',?_,(f0.step0 f1).step (by rw[hM'];exact Fr.put _ _ _:Fr M1 M' [m.next+1]) (by simp)⟩
  simp only[q2k.cells,hn]at a1 l s l2 hM0⊢;simp only[a4z]at hM1;simp only[j7s (H:=H30) rfl,T.f24,pB,p1,q1,q0K,q0a,unA,q0H,q0I,q0e,AV.cells,on1,lcs,ge,if_true,xom,Mem.q0t,<-hM0,<-hM1,a1,xbf,l,s,l2]
 |true=>
  obtain⟨t',M',o',e',F'⟩:=j26 (B:=m.next) (R:=m.next+1) h w (f0.step0 f1) (xnr _) ((f0.step0 f1).get hc (by simp)) (by omega) ok g1 r1 (by omega)
  refine⟨t',o',M',?_,(f0.step0 f1).step F' (by simp)⟩;simp only[q2k.cells,hn]at a1 hM0⊢;simp only[q2k.cells]at e';simp only[a4z]at hM1;simp only[j7s (H:=H30) rfl,T.f24,pB,p1,q1,q0K,q0a,unA,q0H,q0I,q0e,AV.cells,on1,lcs,ge,if_true,xom,Mem.q0t,<-hM0,<-hM1,a1,xbt,e']
end
section
set_option maxRecDepth 8000
set_option maxHeartbeats 1000000
open Go Go.Abs
theorem q7n {t:Int} {n:Nat} (h:near t n) (hn:n<=4000000000000000001):t.natAbs<4294967296 ^ 15:=by
 obtain⟨h1,h2⟩:=h;have:t.natAbs<784637716923335095479473677900958302012794430558004314112:=by omega
 exact Nat.lt_trans this (by decide)
theorem q43 (t:Int):(q1J t).length=17:=by simp[q1J,q1G]
theorem z8Q (t:Int):(q1J t).all AV.one=true:=by simp[q1J,AV.one,q3u]
theorem z2T {M:Mem} {c:Nat} {t:Int} (h:M.get c=some (.cells (q1J t) false)) (t':Int):∃M',stV M (.ptr (some ⟨c,0⟩)) (.agg (q1J t')) 17=some M'/\M'.get c=some (.cells (q1J t') false)/\Fr M M' [c]:=
 ⟨_,q0X (n:=17) h (q43 _) (q43 _) (z8Q _),q0v h,Fr.put _ _ _⟩
section
variable {m m1:Mem} {sp sq sa:AV} {st:LSt} {bb c:Nat} {n:List UInt8}
theorem a3V (h1:m.get bb=some (.cells [sp,sq,sa,.int .u64 st.latest] false)) (hb:BkV m sp sq sa st) (ok:q8J st) (f01:Fr m m1 []) (hcm:m1.next<=c) (t3:AV):∀(d i:Nat) (M:Mem) (t:Int),i+d=st.q0p.length->Fr m1 M []->M.get c=some (.cells (q1J t) false)->near t (i+1)->
  ∃M',D30.gor 102402 [.ptr (some ⟨bb,0⟩),t3,.str n,.ptr (some ⟨c,0⟩),.int .i64 (i:Int)] M=D30.gor 102405 [.ptr (some ⟨bb,0⟩),t3,.str n,.ptr (some ⟨c,0⟩)] M'/\M'.get c=some (.cells (q1J (t+sA n (st.q0p.drop i))) false)/\near (t+sA n (st.q0p.drop i)) (st.q0p.length+1)/\Fr m1 M' []:=by
 obtain⟨e,he,hs⟩:=uA;have hn:=ok.small.2.2;intro d;induction d with
 |zero=>
  intro i M t hi fM1 hc hn';have fM:=f01.step0 fM1;have:i=st.q0p.length:=by omega
  subst this;have l1:=(hb.a.q0h fM).q2s he;rw[xlm]at l1;have b1:∀i:Nat,ld1 M (.ptr (some ⟨bb,i⟩))=[sp,sq,sa,AV.int .u64 st.latest][i]?:=fun i=>q0g (fM.get h1 (by simp))
  rw[List.drop_length,show sA n []=0 from rfl,Int.add_zero];refine⟨M,?_,hc,hn',fM1⟩;simp only[q9H (H:=H30),T.j4n,p1,q1,p2,q0a,q0e,b1,l1,df (show ¬((st.q0p.length:Nat):Int)<(st.q0p.length:Int) by omega)]
 |succ d ih=>
  intro i M t hi fM1 hc hn';have fM:=f01.step0 fM1;have hlt:i<st.q0p.length:=by omega
  have l1:=(hb.a.q0h fM).q2s he;rw[xlm]at l1;have b1:∀i:Nat,ld1 M (.ptr (some ⟨bb,i⟩))=[sp,sq,sa,AV.int .u64 st.latest][i]?:=fun i=>q0g (fM.get h1 (by simp))
  obtain⟨bs,o,_,x2,x3,x4,_⟩:=(hb.a.q0h fM).ixT he hs (i:=i) (by rw[xlm];exact hlt);have x3:=x3 1 (by omega);have x4:=x4 2 2 (by omega);rw[xgm]at x3 x4;obtain⟨a,ha⟩:∃a,a=st.q0p[i]:=⟨_,rfl⟩;have oka:=(ok.a a (by rw[ha];exact List.getElem_mem hlt)).1;have hsum:sA n (st.q0p.drop i)=(if a.q1S=n then a.bal.val else 0)+sA n (st.q0p.drop (i+1)):=by
   rw[List.drop_eq_getElem_cons hlt,ha];rfl
  rw[<-ha]at x3 x4;have x4:ldN M (.ptr (some ⟨bs,o+2⟩)) 2=some (.agg a.bal.cells):=x4;have lc:ldN M (.ptr (some ⟨c,0⟩)) 17=some (.agg (q1J t)):=q0A hc (q43 t);have nx:∀M,D30.gor 102404 [.ptr (some ⟨bb,0⟩),t3,.str n,.ptr (some ⟨c,0⟩),.int .i64 (i:Int)] M=D30.gor 102402 [.ptr (some ⟨bb,0⟩),t3,.str n,.ptr (some ⟨c,0⟩),.int .i64 ((i+1:Nat):Int)] M:=fun M=>by
   simp only[j4o (H:=H30),T.a7G,p2,wp,show (i:Int)+1=((i+1:Nat):Int) by omega,wrap_i64 (n:=((i+1:Nat):Int)) (by omega) (by omega)]
  simp only[ge,q1b.cells]at x3;simp only[Wd.cells]at x4;rw[hsum];by_cases h:a.q1S=n
  ·rw[if_pos h];obtain⟨M2,s2,c2,f2⟩:=z2T hc (t+a.bal.val);have ro:=fun M=>q3V (H:=H30) rfl oka M
   have rs:=fun M=>q6t (H:=H30) rfl (q7n hn' (by omega)) (q21 oka) M
   simp only[Wd.cells]at ro;obtain⟨M4,r1,r2,r3,r4⟩:=ih (i+1) M2 (t+a.bal.val) (by omega) (fM1.step f2 (fun c' hc'=>by simp only[xms]at hc';subst hc';exact .inr hcm)) c2 (hn'.add oka)
   refine⟨M4,?_,by rw[<-Int.add_assoc];exact r2,by rw[<-Int.add_assoc];exact r3,r4⟩;simp only[q9H (H:=H30),T.j4n,p1,q1,p2,q0a,q0e,b1,l1,dt (show (i:Int)<(st.q0p.length:Int) by omega)];simp only[z5c (H:=H30),T.a0Z,p1,q1,p2,q0a,q0e,b1,x2,x3,dt h,lc,x4,ro,if_true,rs,s2,nx];exact r1
  ·rw[if_neg h,Int.zero_add];obtain⟨M4,r1,r2,r3,r4⟩:=ih (i+1) M t (by omega) fM1 hc (hn'.up (by omega));refine⟨M4,?_,r2,r3,r4⟩;simp only[q9H (H:=H30),T.j4n,p1,q1,p2,q0a,q0e,b1,l1,dt (show (i:Int)<(st.q0p.length:Int) by omega)];simp only[z5c (H:=H30),T.a0Z,p1,q1,p2,q0a,q0e,b1,x2,x3,df h,nx];exact r1
theorem j6U (h1:m.get bb=some (.cells [sp,sq,sa,.int .u64 st.latest] false)) (hb:BkV m sp sq sa st) (ok:q8J st) (f01:Fr m m1 []) (hcm:m1.next<=c) (t3:AV) (n0:Nat) (hn0:n0<=1000000000000000001):∀(d i:Nat) (M:Mem) (t:Int),i+d=st.pairs.length->Fr m1 M []->M.get c=some (.cells (q1J t) false)->near t (n0+2*i)->
  ∃M',D30.gor 102406 [.ptr (some ⟨bb,0⟩),t3,.str n,.ptr (some ⟨c,0⟩),.int .i64 (i:Int)] M=D30.gor 102410 [.ptr (some ⟨bb,0⟩),t3,.ptr (some ⟨c,0⟩)] M'/\M'.get c=some (.cells (q1J (t+sQ n (st.pairs.drop i))) false)/\near (t+sQ n (st.pairs.drop i)) (n0+2*st.pairs.length)/\Fr m1 M' []:=by
 obtain⟨e,he,hs⟩:=uQ;have hn:=ok.small.2.1;intro d;induction d with
 |zero=>
  intro i M t hi fM1 hc hn';have fM:=f01.step0 fM1;have:i=st.pairs.length:=by omega
  subst this;have l1:=(hb.q.q0h fM).q2s he;rw[xlm]at l1;have b1:∀i:Nat,ld1 M (.ptr (some ⟨bb,i⟩))=[sp,sq,sa,AV.int .u64 st.latest][i]?:=fun i=>q0g (fM.get h1 (by simp))
  rw[List.drop_length,show sQ n []=0 from rfl,Int.add_zero];refine⟨M,?_,hc,hn',fM1⟩;simp only[q9I (H:=H30),T.j4q,p1,q1,p2,q0a,q0e,b1,l1,df (show ¬((st.pairs.length:Nat):Int)<(st.pairs.length:Int) by omega)]
 |succ d ih=>
  intro i M t hi fM1 hc hn';have fM:=f01.step0 fM1;have hlt:i<st.pairs.length:=by omega
  obtain⟨a,ha⟩:∃a,a=st.pairs[i]:=⟨_,rfl⟩;have oka:=ok.q a (by rw[ha];exact List.getElem_mem hlt);have hsum:sQ n (st.pairs.drop i)=((if a.x=n then a.inx.val else 0)+(if a.y=n then a.q18.val else 0))+sQ n (st.pairs.drop (i+1)):=by
   rw[List.drop_eq_getElem_cons hlt,ha];rfl
  have at_:∀M,Fr m M []->(∀i:Nat,ld1 M (.ptr (some ⟨bb,i⟩))=[sp,sq,sa,AV.int .u64 st.latest][i]?)/\q2s Tryz.prog 24 sq=some (.int .i64 (st.pairs.length:Int))/\∃bs o,(∀k:IntKind,q0M Tryz.prog 24 sq (.int k (i:Int))=some (.ptr (some ⟨bs,o⟩)))/\
    ld1 M (.ptr (some ⟨bs,o⟩))=some (.str a.x)/\ld1 M (.ptr (some ⟨bs,o+1⟩))=some (.str a.y)/\ldN M (.ptr (some ⟨bs,o+5⟩)) 2=some (.agg [.int .i64 a.inx.hi,.int .u64 a.inx.lo])/\ldN M (.ptr (some ⟨bs,o+7⟩)) 2=some (.agg [.int .i64 a.q18.hi,.int .u64 a.q18.lo]):=fun M fM=>by
   have l1:=(hb.q.q0h fM).q2s he;rw[xlm]at l1;obtain⟨bs,o,_,x2,x3,x4,_⟩:=(hb.q.q0h fM).ixT he hs (i:=i) (by rw[xlm];exact hlt);have y0:=x3 0 (by omega);have y1:=x3 1 (by omega);have y5:=x4 5 2 (by omega);have y7:=x4 7 2 (by omega);rw[xgm,<-ha]at y0 y1 y5 y7;exact⟨fun i=>q0g (fM.get h1 (by simp)),l1,bs,o,x2,y0,y1,y5,y7⟩
  have nx:∀M,D30.gor 102409 [.ptr (some ⟨bb,0⟩),t3,.str n,.ptr (some ⟨c,0⟩),.int .i64 (i:Int)] M=D30.gor 102406 [.ptr (some ⟨bb,0⟩),t3,.str n,.ptr (some ⟨c,0⟩),.int .i64 ((i+1:Nat):Int)] M:=fun M=>by
   simp only[j4r (H:=H30),T.a7I,p2,wp,show (i:Int)+1=((i+1:Nat):Int) by omega,wrap_i64 (n:=((i+1:Nat):Int)) (by omega) (by omega)]
  have half:∀(M:Mem) (t:Int),Fr m1 M []->M.get c=some (.cells (q1J t) false)->near t (n0+2*i+1)->
    ∃M',D30.gor 102408 [.ptr (some ⟨bb,0⟩),t3,.str n,.ptr (some ⟨c,0⟩),.int .i64 (i:Int)] M=D30.gor 102410 [.ptr (some ⟨bb,0⟩),t3,.ptr (some ⟨c,0⟩)] M'/\M'.get c=some (.cells (q1J (t+(if a.y=n then a.q18.val else 0)+sQ n (st.pairs.drop (i+1)))) false)/\near (t+(if a.y=n then a.q18.val else 0)+sQ n (st.pairs.drop (i+1))) (n0+2*st.pairs.length)/\Fr m1 M' []:=by
   intro M t fM1 hc hn';have fM:=f01.step0 fM1;obtain⟨b1,l1,bs,o,x2,y0,y1,y5,y7⟩:=at_ M fM;have lc:ldN M (.ptr (some ⟨c,0⟩)) 17=some (.agg (q1J t)):=q0A hc (q43 t);by_cases h:a.y=n
   ·rw[if_pos h];obtain⟨M2,s2,c2,f2⟩:=z2T hc (t+a.q18.val);have ro:=fun M=>q3V (H:=H30) rfl oka.2.2.1 M
    have rs:=fun M=>q6t (H:=H30) rfl (q7n hn' (by omega)) (q21 oka.2.2.1) M
    simp only[Wd.cells]at ro;obtain⟨M4,r1,r2,r3,r4⟩:=ih (i+1) M2 (t+a.q18.val) (by omega) (fM1.step f2 (fun c' hc'=>by simp only[xms]at hc';subst hc';exact .inr hcm)) c2 ((hn'.add oka.2.2.1).up (by omega))
    refine⟨M4,?_,r2,r3,r4⟩;simp only[z5e (H:=H30),T.a01,p1,q1,p2,q0a,q0e,b1,x2,y1,dt h,lc,y7,ro,if_true,rs,s2,nx];exact r1
   ·rw[if_neg h,Int.add_zero];obtain⟨M4,r1,r2,r3,r4⟩:=ih (i+1) M t (by omega) fM1 hc (hn'.up (by omega));refine⟨M4,?_,r2,r3,r4⟩;simp only[z5e (H:=H30),T.a01,p1,q1,p2,q0a,q0e,b1,x2,y1,df h,nx];exact r1
  obtain⟨b1,l1,bs,o,x2,y0,y1,y5,y7⟩:=at_ M fM;have lc:ldN M (.ptr (some ⟨c,0⟩)) 17=some (.agg (q1J t)):=q0A hc (q43 t);rw[hsum];by_cases h:a.x=n
  ·rw[if_pos h];obtain⟨M2,s2,c2,f2⟩:=z2T hc (t+a.inx.val);have ro:=fun M=>q3V (H:=H30) rfl oka.2.1 M
   have rs:=fun M=>q6t (H:=H30) rfl (q7n hn' (by omega)) (q21 oka.2.1) M
   simp only[Wd.cells]at ro;obtain⟨M4,r1,r2,r3,r4⟩:=half M2 (t+a.inx.val) (fM1.step f2 (fun c' hc'=>by simp only[xms]at hc';subst hc';exact .inr hcm)) c2 (hn'.add oka.2.1)
   have e9:t+a.inx.val+(if a.y=n then a.q18.val else 0)+sQ n (st.pairs.drop (i+1))=t+(a.inx.val+(if a.y=n then a.q18.val else 0)+sQ n (st.pairs.drop (i+1))):=by omega
   rw[e9]at r2 r3;refine⟨M4,?_,r2,r3,r4⟩;simp only[q9I (H:=H30),T.j4q,p1,q1,p2,q0a,q0e,b1,l1,dt (show (i:Int)<(st.pairs.length:Int) by omega)];simp only[z5d (H:=H30),T.a00,p1,q1,p2,q0a,q0e,b1,x2,y0,dt h,lc,y5,ro,if_true,rs,s2];exact r1
  ·rw[if_neg h,Int.zero_add];obtain⟨M4,r1,r2,r3,r4⟩:=half M t fM1 hc (hn'.up (by omega));rw[Int.add_assoc]at r2 r3;refine⟨M4,?_,r2,r3,r4⟩;simp only[q9I (H:=H30),T.j4q,p1,q1,p2,q0a,q0e,b1,l1,dt (show (i:Int)<(st.pairs.length:Int) by omega)];simp only[z5d (H:=H30),T.a00,p1,q1,p2,q0a,q0e,b1,x2,y0,df h];exact r1
theorem a3W (h1:m.get bb=some (.cells [sp,sq,sa,.int .u64 st.latest] false)) (hb:BkV m sp sq sa st) (ok:q8J st):∀(d i:Nat) (M:Mem),i+d=st.q0b.length->Fr m M []->
  Res M (D30.gor 102400 [.ptr (some ⟨bb,0⟩),.int .i64 (i:Int)] M) (.bool (q3v (q8D st) d i)):=by
 obtain⟨e,he,hs⟩:=uP;obtain⟨sm0,sm1,sm2⟩:q8i st:=ok.small;intro d;induction d with
 |zero=>
  intro i M hi fM;have:i=st.q0b.length:=by omega
  subst this;have l1:=(hb.p.q0h fM).q2s he;rw[xlm]at l1;have b1:∀i:Nat,ld1 M (.ptr (some ⟨bb,i⟩))=[sp,sq,sa,AV.int .u64 st.latest][i]?:=fun i=>q0g (fM.get h1 (by simp))
  simp only[z5b (H:=H30),T.a0Y,p1,q1,p2,q0a,q0e,b1,l1,df (show ¬((st.q0b.length:Nat):Int)<(st.q0b.length:Int) by omega),j1o (H:=H30),T.j8Y,wp];exact Res.eq (Fr.refl _) rfl
 |succ d ih=>
  intro i M hi fM;have hlt:i<st.q0b.length:=by omega
  have l1:=(hb.p.q0h fM).q2s he;rw[xlm]at l1;have b1:∀i:Nat,ld1 M (.ptr (some ⟨bb,i⟩))=[sp,sq,sa,AV.int .u64 st.latest][i]?:=fun i=>q0g (fM.get h1 (by simp))
  obtain⟨bs,o,_,x2,x3,x4,_⟩:=(hb.p.q0h fM).ixT he hs (i:=i) (by rw[xlm];exact hlt);have x3:=x3 0 (by omega);have x4:=x4 2 2 (by omega);rw[xgm]at x3 x4;obtain⟨q,hq⟩:∃q,q=st.q0b[i]:=⟨_,rfl⟩;have mq:q∈st.q0b:=by rw[hq];exact List.getElem_mem hlt
  have okq:=(ok.p q mq).1;rw[<-hq]at x3 x4;have x3:ld1 M (.ptr (some ⟨bs,o⟩))=some (.str q.name):=x3;have x4:ldN M (.ptr (some ⟨bs,o+2⟩)) 2=some (.agg [.int .i64 q.out.hi,.int .u64 q.out.lo]):=x4;have hok:q8D st i=decide (z4g st.pairs st.q0p q=0):=by unfold q8D;rw[xgq hlt,<-hq]
  obtain⟨M2,hM2⟩:∃M2,M2=M.lay (.cells (q1J q.out.val) false):=⟨_,rfl⟩;have f2:Fr M M2 []:=by rw[hM2];exact(Fr.refl M).lay _
  have s2:stV (M.lay (.cells [.bool false,.int .u64 0,.int .u64 0,.int .u64 0,.int .u64 0,.int .u64 0,.int .u64 0,.int .u64 0,.int .u64 0,.int .u64 0,.int .u64 0,.int .u64 0,.int .u64 0,.int .u64 0,.int .u64 0,.int .u64 0,.int .u64 0] false)) (.ptr (some ⟨M.next,0⟩)) (.agg (q1J q.out.val)) 17=some M2:=by
   rw[q0X (n:=17) (q0f M _) rfl (q43 _) (z8Q _),q1c,hM2]
  have c2:M2.get M.next=some (.cells (q1J q.out.val) false):=by rw[hM2];exact q0f M _
  have nM:=fM.next
  have n0:near q.out.val 1:=by
   have h0:near 0 0:=by unfold near;omega
   have:=h0.add okq
   rwa [Int.zero_add]at this
  have ro:=fun M=>q3V (H:=H30) rfl okq M
  simp only[Wd.cells]at ro;obtain⟨M3,r1,r2,r3,r4⟩:=a3V (n:=q.name) h1 hb ok fM (xnr M.next) (.int .i64 (i:Int)) st.q0p.length 0 M2 _ (by omega) f2 c2 n0
  rw[List.drop_zero]at r2 r3;obtain⟨M4,q1,q2,q3,q4⟩:=j6U (n:=q.name) h1 hb ok fM (xnr M.next) (.int .i64 (i:Int)) (st.q0p.length+1) (by omega) st.pairs.length 0 M3 _ (by omega) r4 r2 r3
  rw[List.drop_zero]at q2 q3;obtain⟨tt,htt⟩:∃tt,tt=q.out.val+sA q.name st.q0p+sQ q.name st.pairs:=⟨_,rfl⟩;rw[<-htt]at q2 q3;have hsp:decide (z4g st.pairs st.q0p q=0)=decide (tt.natAbs=0):=decide_eq_decide.mpr (by unfold z4g;omega);have l16:ldN M4 (.ptr (some ⟨M.next,1⟩)) 16=some (.agg (D16 tt.natAbs)):=by
   rw[q00 q2 (by rw[q43];omega)];show some (AV.agg ((D16 tt.natAbs).take 16))=_;rw[xtl (by rw[q1G];exact xnr _)]
  have rz:=q4J (H:=H30) rfl (q3e (q7n q3 (by omega)) (by omega)) M4;simp only[Int.natCast_zero]at r1 q1;have go1:D30.gor 102400 [.ptr (some ⟨bb,0⟩),.int .i64 (i:Int)] M=D30.gor 102410 [.ptr (some ⟨bb,0⟩),.int .i64 (i:Int),.ptr (some ⟨M.next,0⟩)] M4:=by
   simp only[z5b (H:=H30),T.a0Y,p1,p2,q0a,q0e,b1,l1,dt (show (i:Int)<(st.q0b.length:Int) by omega)];simp only[j4m (H:=H30),T.a7F,p1,p2,pB,q0e,b1,x2,x3,x4,ro,s2,r1];simp only[j4p (H:=H30),T.a7H,wp,q1]
  rw[go1,q3v,hok,hsp];cases hv:decide (tt.natAbs=0) with
  |false=>
   rw[hv]at rz;simp only[z1K (H:=H30),T.j1m,p1,q0a,unA,q0e,l16,rz,xbf,Bool.false_and];exact Res.eq q4 rfl
  |true=>
   rw[hv]at rz;simp only[z1K (H:=H30),T.j1m,p1,q0a,unA,q0e,l16,rz,xbt,Bool.true_and];simp only[j1n (H:=H30),T.j8X,p2,wp,show (i:Int)+1=((i+1:Nat):Int) by omega,wrap_i64 (n:=((i+1:Nat):Int)) (by omega) (by omega)];exact(ih (i+1) M4 (by omega) (fM.step0 q4)).step q4
theorem j6W (hb:BkV m sp sq sa st) (ok:q8J st):Res m (run E30 (.fn 25) [.agg [sp,sq,sa,.int .u64 st.latest]] m) (.bool (q3v (q8D st) st.q0b.length 0)):=by
 obtain⟨M,hM⟩:∃M,M=m.lay (.cells [sp,sq,sa,.int .u64 st.latest] false):=⟨_,rfl⟩;have f1:Fr m M []:=by rw[hM];exact(Fr.refl m).lay _
 have g1:M.get m.next=some (.cells [sp,sq,sa,.int .u64 st.latest] false):=by rw[hM];exact q0f m _
 have lo:=a3W g1 (hb.q0h f1) ok st.q0b.length 0 M (by omega) (Fr.refl _);simp only[Int.natCast_zero]at lo;simp only[a5w (H:=H30) rfl,T.f25,q0K,wp,AV.cells,on1,lcs,if_true,xom,hb.p.one,hb.q.one,hb.a.one,<-hM];exact lo.step f1
end
end
section
set_option maxRecDepth 16000
set_option maxHeartbeats 2000000
open Go Go.Abs
theorem b2e:∃e,Tryz.prog.underlying 58=some (.slice e)/\szT Tryz.prog e=some 11:=⟨65,by kernel_rfl,by kernel_rfl⟩
theorem z8m (st:LSt):z0z st st=true:=by unfold z0z;simp
theorem j69 {st:LSt} (w:LWf st):q8i st:=by
 have:=w.lp;have:=w.lq;have:=w.la;exact⟨by omega,by omega,by omega⟩
theorem z7a {st:LSt} (g:q3Q st):q3v (q8D st) st.q0b.length 0=true:=by
 have h:=q4f g;unfold q86 at h;simp only[Bool.and_eq_true]at h;exact h.2.2.2.2.2.2.2
theorem j3c {m0:Mem} {n:Int} {sl:AV} {ts:List q2k} (hv:z2C 11 m0 sl (ts.map (·.cells))) (hok:∀t∈ts,q2k.ok t) {ro:Bool} (hc:m0.get 0=some (.cells z7k ro)) {lb rb:Nat}:∀(d i:Nat) (M:Mem) (st:LSt) (F G:List Nat),i+d=ts.length->Fr m0 M []->Both M lb rb st F G->st.most=n->(∀c,c∈F++G->m0.next<=c)->
  ∃M',D30.gor 24577 [.int .i64 n,sl,.ptr (some ⟨lb,0⟩),.ptr (some ⟨rb,0⟩),.int .i64 (i:Int)] M=some (.bool true,M'):=by
 obtain⟨e,he,hss⟩:=b2e;intro d;induction d with
 |zero=>
  intro i M st F G hi hf h hm hb;have hle:i=ts.length:=by omega
  subst hle;have l1:=(hv.q0h hf).q2s he;rw[xlm]at l1;refine⟨M,?_⟩;simp only[z3t (H:=H30),T.b1a,p1,p2,q0a,ifV,wp,l1,df (show ¬((ts.length:Nat):Int)<(ts.length:Int) by omega),j1B (H:=H30),T.b1y,wp]
 |succ d ih=>
  intro i M st F G hi hf h hm hb;have hlt:i<ts.length:=by omega
  have l1:=(hv.q0h hf).q2s he;rw[xlm]at l1;by_cases h100:i<100
  ·obtain⟨sp,sq,sa,m3,r1,r2,r3,b1,bp,bq,ba,f3,z1,z2,z3⟩:=z2V h.l h.inv.w;have b1:=(z2h (H:=H30) (f:=16) rfl _ _).trans b1;have bv:BkV m3 sp sq sa st:=⟨bp.v,bq.v,ba.v⟩;obtain⟨M4,hM4⟩:∃M4,M4=m3.lay (.cells [sp,sq,sa,.int .u64 st.latest] false):=⟨_,rfl⟩;have f4:Fr m3 M4 []:=by rw[hM4];exact(Fr.refl _).lay _
   have s4:stV (m3.lay (.cells [.sl none 0 0 0 true,.sl none 0 0 0 true,.sl none 0 0 0 true,.int .u64 0] false)) (.ptr (some ⟨m3.next,0⟩)) (.agg [sp,sq,sa,.int .u64 st.latest]) 4=some M4:=by rw[q0X (n:=4) (q0f m3 _) rfl rfl (bv.one _),q1c,hM4]
   have g4:M4.get m3.next=some (.cells [sp,sq,sa,.int .u64 st.latest] false):=by rw[hM4];exact q0f _ _
   have F4:=(hf.step0 f3).step0 f4;obtain⟨bs,o,_,x2,_,_,x5⟩:=(hv.q0h F4).ixT he hss (i:=i) (by rw[xlm];exact hlt);rw[xgm]at x5;have h4:=(h.q0h f3).q0h f4;obtain⟨t',ok',M5,e1,f5⟩:=j64 h4.r h.inv.w (F4.get hc (by simp)) (hok _ (List.getElem_mem hlt));obtain⟨er,st',M6,F',G',e2,B',sty,fr,hin⟩:=b0U (h4.q0h f5) ok';have n3:=f3.next
   have n4:=f4.next
   have n5:=f5.next
   have n6:=fr.next
   have nf:=hf.next
   have ltF:∀c,c∈F++G->c<M.next:=fun c hc=>by
    rcases xma.1 hc with hc|hc
    ·exact h.l.lt c hc
    ·exact h.r.lt c hc
   have F6:Fr m0 M6 []:=(F4.step0 f5).step fr (fun c hc=>.inr (hb c hc))
   have g6:M6.get m3.next=some (.cells [sp,sq,sa,.int .u64 st.latest] false):=fr.get (f5.get g4 (by simp)) (fun hc=>by have:=ltF _ hc;omega)
   have bv4:=bv.q0h f4;obtain⟨tp,tq,ta,m7,u1,u2,u3,b7,cp,cq,ca,f7,_⟩:=z2V B'.l B'.inv.w;have b7:=(z2h (H:=H30) (f:=16) rfl _ _).trans b7;have cv:BkV m7 tp tq ta st':=⟨cp.v,cq.v,ca.v⟩;obtain⟨M8,hM8⟩:∃M8,M8=m7.lay (.cells [tp,tq,ta,.int .u64 st'.latest] false):=⟨_,rfl⟩;have f8:Fr m7 M8 []:=by rw[hM8];exact(Fr.refl _).lay _
   have s8:stV (m7.lay (.cells [.sl none 0 0 0 true,.sl none 0 0 0 true,.sl none 0 0 0 true,.int .u64 0] false)) (.ptr (some ⟨m7.next,0⟩)) (.agg [tp,tq,ta,.int .u64 st'.latest]) 4=some M8:=by rw[q0X (n:=4) (q0f m7 _) rfl rfl (cv.one _),q1c,hM8]
   have g8:M8.get m7.next=some (.cells [tp,tq,ta,.int .u64 st'.latest] false):=by rw[hM8];exact q0f _ _
   have cv8:=cv.q0h f8;have F68:Fr M6 M8 []:=f7.step0 f8;have k8:ldN M8 (.ptr (some ⟨m3.next,0⟩)) 4=some (.agg [sp,sq,sa,.int .u64 st.latest]):=q0A (F68.get g6 (by simp)) rfl
   have l8:ldN M8 (.ptr (some ⟨m7.next,0⟩)) 4=some (.agg [tp,tq,ta,.int .u64 st'.latest]):=q0A g8 rfl
   have ok8:=z2a B'.inv;obtain⟨M9,q1,f9⟩:=j6W cv8 ok8;rw[z7a B'.inv]at q1;have l9:ldN M9 (.ptr (some ⟨m7.next,0⟩)) 4=some (.agg [tp,tq,ta,.int .u64 st'.latest]):=q0A (f9.get g8 (by simp)) rfl
   have ri:=z6F (H:=H30) rfl cv8 ok8 M9 f9;rw[q4f B'.inv,sty.1,hm]at ri;obtain⟨M',e'⟩:=ih (i+1) M9 st' F' G' (by omega) ((F6.step0 F68).step0 f9) ((B'.q0h F68).q0h f9) (sty.1.trans hm) (fun c hc=>(hin c hc).elim (hb c) (by omega))
   have nx:D30.gor 24579 [.int .i64 n,sl,.ptr (some ⟨lb,0⟩),.ptr (some ⟨rb,0⟩),.int .i64 (i:Int)] M9=some (.bool true,M'):=by
    simp only[a1w (H:=H30),T.b2n,p2,wp,show (i:Int)+1=((i+1:Nat):Int) by omega,wrap_i64 (n:=((i+1:Nat):Int)) (by omega) (by omega),e']
   refine⟨M',?_⟩;simp only[z3t (H:=H30),T.b1a,p1,p2,q0a,ifV,wp,l1,dt (show (i:Int)<(ts.length:Int) by omega),dt (show (i:Int)<100 by omega)];by_cases hz:er=0
   ·simp only[j1A (H:=H30),T.b1x,pB,p2,q1,p1,q0d,q0a,ifV,unA,q02,b1,s4,x2,x5,e1,e2,b7,s8,df (show ¬er≠0 by omega),dt hz,xbt,l8,l9,ri,nx]
   ·have hst:=sty.2 hz;have bvs:BkV M8 sp sq sa st':=by
     rw[hst];have f35:=f4.step0 f5;have ap:∀{r:Option Nat},(∀c,r=some c->M.next<=c)->∀c,r=some c->c∉F++G:=fun hr c hc hm=>by have:=hr c hc;have:=ltF c hm;omega
     have ap0:∀{r:Option Nat} (c:Nat),r=some c->c∉([]:List Nat):=by simp
     exact(⟨((bp.frame f35 ap0).frame fr (ap z1)).v,((bq.frame f35 ap0).frame fr (ap z2)).v,((ba.frame f35 ap0).frame fr (ap z3)).v⟩:BkV M6 sp sq sa st).q0h F68
    have sm:=a4b (H:=H30) rfl bvs cv8 (j69 B'.inv.w) M8 (Fr.refl _);rw[z8m]at sm;subst hst;simp only[j1A (H:=H30),T.b1x,pB,p2,q1,p1,q0d,q0a,ifV,unA,q02,b1,s4,x2,x5,e1,e2,b7,s8,dt (show er≠0 by omega),df hz,xbt,xbf,k8,l8,sm,l9,ri,nx]
  ·refine⟨M,?_⟩;simp only[z3t (H:=H30),T.b1a,p1,p2,q0a,ifV,wp,l1,dt (show (i:Int)<(ts.length:Int) by omega),df (show ¬(i:Int)<100 by omega),j1B (H:=H30),T.b1y,wp]
theorem j6s (m:Mem) {sa0 sl:AV} {acts:List (Int×Int×Int×Int)} {ts:List q2k} (hv0:z2C 4 m sa0 (acts.map j9j)) (hN:∀a∈acts,i64 a.2.2.2) (hv:z2C 11 m sl (ts.map (·.cells))) (hok:∀t∈ts,q2k.ok t)
  (hco:∃ro,m.get 1=some (.cells z7h ro)) (hcl:∃ro,m.get 0=some (.cells z7k ro)) (most:Int) :
  ∃m',run E30 (.fn 6) [.int .i64 most,sa0,sl] m=some (.bool true,m'):=by
 obtain⟨rl,hcl⟩:=hcl;have pk:=fun M=>q1k (H:=H30) rfl M most (n:=8) (by omega) (by omega)
 obtain⟨n,hn⟩:∃n,n=1+most % 8:=⟨_,rfl⟩;have wn:IntKind.wrap .i64 (1+most % 8)=n:=by rw[wrap_i64 (by omega) (by omega),hn]
 obtain⟨st,sp,sq,sa,m1,h1,g,hmost,hbk,f1⟩:=j6f hv0 hN hco (most:=n) (by omega);have h1':=(z8c (H:=H30) (f:=9) rfl _ _).trans h1;have w:=g.w;obtain⟨lb,m4,F,h4,L4,f4,hF4⟩:=a0K hbk.v g;rw[hmost]at h4;have h4':=(b2a (H:=H30) (f:=12) rfl _ _).trans h4;have kn:=j6j (H:=H30) rfl m4;obtain⟨kp,kq,ka,m3,r1,r2,r3,b1,bp,bq,ba,f3,_⟩:=z2V L4 w;have b1':=(z2h (H:=H30) (f:=16) rfl _ _).trans b1
 obtain⟨up,uq,ua,yp,yq,ya,m5,c5,v1,v2,v3,f5,p1',p2',p3',p4',p5',p6'⟩:=j9F (⟨bp.v,bq.v,ba.v⟩:BkV m3 kp kq ka st) w;obtain⟨M6,hM6⟩:∃M6,M6=m5.lay (.cells [up,uq,ua,.int .u64 st.latest,.int .i64 n] false):=⟨_,rfl⟩;have f6:Fr m5 M6 []:=by rw[hM6];exact(Fr.refl _).lay _
 have g6:M6.get m5.next=some (.cells [up,uq,ua,.int .u64 st.latest,.int .i64 n] false):=by rw[hM6];exact q0f _ _
 have lt1:=v1.lt;have lt2:=v2.lt;have lt3:=v3.lt;have n1:=f1.next
 have n3:=f3.next
 have n4:=f4.next
 have n5:=f5.next
 have R6:q0L M6 m5.next st (m5.next::([yp]++[yq]++[ya])):=by
  refine⟨up,uq,ua,some yp,some yq,some ya,by rw[hmost];exact g6,v1.frame f6 (by simp),v2.frame f6 (by simp),v3.frame f6 (by simp),?_,?_,?_,?_,?_,?_,rfl⟩
  ·simp;omega
  ·simp;omega
  ·simp;omega
  ·intro c hc;simp at hc⊢;omega
  ·intro c hc;simp at hc⊢;omega
  ·intro c hc;simp at hc⊢;omega
 have B6:Both M6 lb m5.next st F (m5.next::([yp]++[yq]++[ya])):=by
  refine⟨((L4.q0h f3).q0h f5).q0h f6,R6,fun c hc=>?_,g⟩
  have:=L4.lt c hc;simp;omega
 have f16:Fr m M6 []:=(((f1.step0 f4).step0 f3).step0 f5).step0 f6;obtain⟨M',e'⟩:=j3c hv hok hcl (n:=n) (lb:=lb) (rb:=m5.next) ts.length 0 M6 st F _ (by omega) f16 B6 hmost (fun c hc=>by
  rcases xma.1 hc with hc|hc
  ·have:=hF4 c hc;omega
  ·simp at hc;omega)
 refine⟨M',?_⟩;simp only[Int.natCast_zero]at e';have o1:=v1.one;have o2:=v2.one;have o3:=v3.one;simp only[b1u (H:=H30) rfl,T.f6,p2,p1,q0d,q0a,ifV,unA,b3p,pk,wn,h1',h4',kn,xbt,decide_true];simp only[a1v (H:=H30),T.b2m,p1,q0o,AV.cells,Nat.reduceAdd,Nat.reduceLeDiff,q0K,q0w,on1,lcs,ge,b1',c5,o1,o2,o3,<-hM6,e']
end
end Go.Proofs.YtlginbmjiecglaaGreatDoor
namespace Go.Abs
section
open Go Go.ChangeShapes Go.WideShapes Go.ChangeAt Go.RowKit
theorem q6d {H:Type} {enc:TypeId×Value->H} {a:Assume} {C:Checked} {os:Os} {f:FuncId} {fn:Func} {s:ChangeSpec} {conds:List PathCond} {apart fresh handsOn again:Bool} {X:World->Array Value->Prop}
  (hX:∀(w w':World) (args:Array Value),w.heap=w'.heap->X w args->X w' args)
  (own:ownKnob C.prog.godebug=none) (started:os.Started) (noInit:C.prog.inits.idxOf? f=none) (hfn:C.prog.funcs[f]? = some fn)
  (witness:∃(w:World) (tape:Tape) (i:Input),w.os=os/\(w.forCall tape i).Shaped C.prog/\i.vars=[]/\Input.okWide C.prog (w.forCall tape i) .any w.heap.size f i/\
   ((s.pre enc C.prog fn conds apart (w.forCall tape i).memory i.args/\X (w.forCall tape i).memory i.args)/\sizedMet enc C.prog fn (OpenSpec.ofChange s) apart (w.forCall tape i).memory i.args)/\a.holds C.prog (lone (Frame.enter C.prog f i.args .normal) [] (w.forCall tape i)))
  (contract:∀(W:World) (base:Nat) (args:Array Value) (ds gs:List (DataW H)) (before:List MemPlace),
   (∀(j:Nat) t v,fn.params[j]? = some t->args[j]? = some v->Value.okWide C.prog W .any base t v)->
   DataW.Whole enc C.prog fn.params.toList s.vars apart W args.toList ds gs before->
   conds.all (PathCond.test C.prog ⟨fn.params.toList,ds,s.plain.varTypes C.prog,gs⟩)=true->
   (DataW.weightsEach C.prog (fn.params.toList++s.plain.varTypes C.prog) (ds++gs)).all (·<=reachBytes)=true->X W args->W.ShapedOpen C.prog->
   a.holds C.prog (lone (Frame.enter C.prog f args .normal) [] W)->
   Calls C.prog f args W fun e W'=>∃v,e=.returned v/\s.post enc C.prog fn apart fresh handsOn again W args v W') :
  ReturnsInHanded a C os f .any (fun w args=>(s.pre enc C.prog fn conds apart w args/\X w args)/\sizedMet enc C.prog fn (OpenSpec.ofChange s) apart w args) (s.post enc C.prog fn apart fresh handsOn again):=by
 refine returnsInHanded_of_calls own started noInit witness ?_;intro w tape i _ hsh _ hok hpre hholds;obtain⟨_,_,_,fn',hfn',_,_,_,_,hval⟩:=hok;have e:fn'=fn:=xsj (hfn'.symm.trans hfn);subst e;obtain⟨⟨⟨ds,gs,before,hw,hc⟩,hx⟩,hz⟩:=hpre;have hw':=DataW.Whole.of_heap (w':=w.forCall tape i) (by rfl) hw;refine(contract (w.forCall tape i) w.heap.size i.args ds gs before hval hw' hc (hz.weights hw) (hX _ _ _ (by rfl) hx) hsh hholds).mono fun e W' ⟨v,he,hp⟩=>?_
 subst he;exact ChangeSpec.post_blind hp
section
variable {P:Program} {W:World} {H:Type} {enc:TypeId×Value->H} {t e:TypeId} {b:Nat} {sp:Nat->Bool} {held:Bool} {f n:Nat}
theorem z1V {cs:List Value} {ss:List (List UInt8)} {p:List MemPlace} (hd:DataW.trod enc P W b sp held f t cs=some (.agg (ss.map fun s=>.lit (.string s)),p)) (ht:P.underlying t=some (.array n e)) (he:P.underlying e=some .string) (hc:P.cellsOf e=1) (hct:P.cellsOf t=n) :
  cs.map (absP W)=ss.map AV.str:=by
 obtain⟨xs,m,rfl,hx,hl,hn,hel⟩:=DataW.trod_array ht hd;simp only[Prod.mk.injEq,DataW.agg.injEq]at hx;have hxl:ss.length=n:=by have:=congrArg List.length hx.1;simp at this;omega
 apply List.ext_getElem?;intro i;by_cases hi:i<n
 ·have h1:=hel i hi;rw[hc,Nat.mul_one,xgq (by omega)]at h1;obtain⟨s,e1,e2,_⟩:=DataW.trod_string he h1;have h2:cs[i]? = some (.string s):=by
   have:((cs.drop i).take 1)[0]? = some (.string s):=by rw[e1];rfl
   rw[List.getElem?_take,if_pos (by omega),List.getElem?_drop,xna]at this;exact this
  have h3:ss[i]? = some s.data.toList:=by
   have h4:=congrArg (fun l=>l[i]?) hx.1
   simp only[List.getElem?_map]at h4;rw[xgq (by omega),xgq (by omega),e2]at h4;simp only[xom,xoi,DataW.lit.injEq,Lit.string.injEq]at h4;rw[xgq (by omega),h4]
  rw[List.getElem?_map,List.getElem?_map,h2,h3];rfl
 ·rw[List.getElem?_eq_none (by simp;omega),List.getElem?_eq_none (by simp;omega)]
theorem j3i {nm:String} {g:Nat} {cs:Array Value} (hg:P.globalNamed nm=some g) (h:W.var? P nm=some cs):(z0J W).get g=some (.cells (cs.toList.map (absP W)) true):=by
 simp only[World.var?,hg,Option.bind_some]at h;rw[q4p];unfold q4Q;split at h
 ·rename_i e;cases h;rw[e]
 ·cases h
end
end
section
open Go
section
variable {P:Program} {W:World} {H:Type} {enc:TypeId×Value->H} {t e:TypeId} {v:Value} {base:Nat}
theorem q8p:∀{l:List (DataW H)} {y:DataW H},y∈l->∀k,k∈y.weights P e->k∈DataW.weightsAll P e l
 |a::l,y,hy,k,hk=>by
  simp only[DataW.weightsAll,xma];rcases xmk0.1 hy with rfl|hy
  ·exact .inl hk
  ·exact .inr (q8p hy k hk)
theorem z0H (ht:P.underlying t=some (.slice e)) {l s:List (DataW H)} {y:DataW H} (hy:y∈l):∀k,k∈y.weights P e->k∈(DataW.slice l s).weights P t:=fun k hk=>by
 simp only[DataW.weights,ht,xmk0,xma];exact .inr (.inl (q8p hy k hk))
theorem trod_string {b:Nat} {sp:Nat->Bool} {held:Bool} {m:Nat} {V:Value} {x:DataW H×List MemPlace} (ht:P.underlying t=some .string)
  (h:DataW.trod enc P W b sp held m t [V]=some x):∃s:ByteArray,V=.string s/\s.data.toList.length∈x.1.weights P t:=by
 cases m with
 |zero=>simp[DataW.trod]at h
 |succ m=>
  simp only[DataW.trod,ht]at h;cases V<;>simp only at h<;>first|(cases h;done)|skip
  split at h
  ·cases h;exact⟨_,rfl,by simp[DataW.weights]⟩
  ·cases h
theorem q6P {b:Nat} {sp:Nat->Bool} {held:Bool} {m:Nat} {cs:List Value}:∀{l:List Field} {r:List (DataW H×List MemPlace)},(l.mapM fun f=>DataW.trod enc P W b sp held m f.type ((cs.drop f.offset).take (P.cellsOf f.type)))=some r->
  ∀f∈l,∃y,DataW.trod enc P W b sp held m f.type ((cs.drop f.offset).take (P.cellsOf f.type))=some y/\∀k,k∈y.1.weights P f.type->k∈DataW.weightsEach P (l.map (·.type)) (r.map (·.1))
 |a::l,r,h,f,hf=>by
  rw[List.mapM_cons]at h;obtain⟨y,h1,h2⟩:=be h;obtain⟨r',h3,h4⟩:=be h2;cases h4;simp only[List.map_cons,DataW.weightsEach,xma];rcases xmk0.1 hf with rfl|hf
  ·exact⟨y,h1,fun k hk=>.inl hk⟩
  ·obtain⟨y',e1,e2⟩:=q6P h3 f hf;exact⟨y',e1,fun k hk=>.inr (e2 k hk)⟩
theorem q4i {fs:Array Field} {b:Nat} {sp:Nat->Bool} {held:Bool} {m:Nat} {cs:List Value} {x:DataW H×List MemPlace} (ht:P.underlying t=some (.struct fs))
  (h:DataW.trod enc P W b sp held m t cs=some x) :
  ∃m',cs.length=P.cellsOf t/\∀f∈fs.toList,∃y,DataW.trod enc P W b sp held m' f.type ((cs.drop f.offset).take (P.cellsOf f.type))=some y/\∀k,k∈y.1.weights P f.type->k∈x.1.weights P t:=by
 cases m with
 |zero=>simp[DataW.trod]at h
 |succ m=>
  simp only[DataW.trod,ht]at h;split at h
  ·rename_i h1;obtain⟨r,h2,rfl⟩:=xoe.1 h;refine⟨m,h1,fun f hf=>?_⟩
   obtain⟨y,e1,e2⟩:=q6P h2 f hf;exact⟨y,e1,fun k hk=>by simp only[DataW.weights,ht];exact e2 k hk⟩
  ·cases h
theorem z6Z {d:DataW H} {p:List MemPlace} (ht:P.underlying t=some (.slice e)) (h:Value.okWide P W .any base t v) (hr:DataW.Trod enc P W 0 (fun _=>true) true t v d p) :
  z2N W v=.sl none 0 0 0 true\/
  ∃(a:AA) (len cap:Nat) (cs:List Value),z2N W v=.sl (some a) 0 len cap true/\len<=cap/\(z0J W).get a.b=some (.cells (cs.map (absP W)) true)/\
   ∃m,∀i,i<len->((cs.drop (a.o+i*P.cellsOf e)).take (P.cellsOf e)).length=P.cellsOf e/\
    ∃y,DataW.trod enc P W 0 (fun _=>true) true m e ((cs.drop (a.o+i*P.cellsOf e)).take (P.cellsOf e))=some y/\∀k,k∈y.1.weights P e->k∈d.weights P t:=by
 unfold Value.okWide at h;simp only[ht]at h;unfold Cell.okWide at h;simp only[ht]at h;unfold Cell.ok at h;simp only[ht]at h;obtain⟨fuel,hr⟩:=hr;cases v<;>first|exact False.elim h|skip
 rename_i a len cap;cases a with
 |none=>
  left;cases len with
  |zero=>cases cap with
   |zero=>rfl
   |succ n=>exact False.elim h
  |succ n=>exact False.elim h
 |some a=>
  right;simp only at h;obtain⟨h1,h2,_,h3,row,n,h4,h5⟩:=h;unfold World.shape? at h4;split at h4
  ·rename_i c el fr hc;rcases Go.Deep.open_slice ht hr with ⟨h6,_⟩|⟨a',len',cap',mm,n',D,Pl,h6,_,_,_,h7,hd,h8⟩
   ·simp[Value.cells]at h6
   ·simp only[Value.cells,List.cons.injEq,and_true]at h6;injection h6 with e1 e2 e3
    cases e1;subst e2;subst e3;cases hd;refine⟨⟨a.block,a.off⟩,len,cap,c.toList,?_,h1,?_,n',fun i hi=>?_⟩
    ·simp[z2N,absP,h3,isCells,hc,h1]
    ·rw[q4p,q4Q,hc]
    ·obtain⟨cs',h9,h10⟩:=h8 i (by rw[h7];simp;omega);obtain⟨_,h11,h12⟩:=World.cells?_some h9;have:(c.toList.drop (a.off+i*P.cellsOf e)).take (P.cellsOf e)=cs':=by
      apply List.ext_getElem?;intro j;rw[List.getElem?_take,List.getElem?_drop];split
      ·rename_i hj;rw[<-h12 j hj];rw[q6Z h3,q6Z rfl];simp[World.cell?,hc]
      ·rw[List.getElem?_eq_none (by omega)]
     simp only;rw[this];exact⟨h11,_,h10,z0H ht (List.mem_map.2 ⟨i,List.mem_range.2 hi,rfl⟩)⟩
  ·cases h4
theorem z8L {α:Type} [Inhabited α] {f:α->List AV} {Q:α->Prop} {n B:Nat} (hn0:0<n) {d:DataW H} {p:List MemPlace} (ht:P.underlying t=some (.slice e)) (hn:P.cellsOf e=n) (h:Value.okWide P W .any base t v) (hr:DataW.Trod enc P W 0 (fun _=>true) true t v d p)
  (hB:∀k,k∈d.weights P t->k<=B)
  (hel:∀(m:Nat) (cs:List Value) (y:DataW H×List MemPlace),cs.length=n->DataW.trod enc P W 0 (fun _=>true) true m e cs=some y->(∀k,k∈y.1.weights P e->k<=B)->∃a,cs.map (absP W)=f a/\Q a) (hf:∀a,(f a).length=n/\(f a).all AV.one=true) :
  ∃l:List α,z2C n (z0J W) (z2N W v) (l.map f)/\∀a∈l,Q a:=by
 rcases z6Z ht h hr with h|⟨a,len,cap,cs,h1,h2,h3,m,h4⟩
 ·exact⟨[],.inl ⟨by simp,.inl ⟨rfl,_,_,_,h⟩⟩,by simp⟩
 ·rw[hn]at h4;have h5:∀i,i<len->∃x,((cs.drop (a.o+i*n)).take n).map (absP W)=f x/\Q x:=fun i hi=>by
   obtain⟨h6,y,h7,h8⟩:=h4 i hi;exact hel m _ y h6 h7 fun k hk=>hB k (h8 k hk)
  obtain⟨g,hg⟩:=Go.Deep.choose_lt h5;by_cases h0:len=0
  ·subst h0;exact⟨[],.inr ⟨rfl,some a,0,cap,true,h1⟩,by simp⟩
  refine⟨(List.range len).map g,.inl ⟨fun x hx=>?_,.inr ⟨a.b,a.o,0,cap,true,true,cs.map (absP W),?_,.inr rfl,h3,?_,?_⟩⟩,fun x hx=>?_⟩
  ·obtain⟨y,_,rfl⟩:=List.mem_map.1 hx;exact hf y
  ·simpa using h1
  ·have h6:=(h4 (len-1) (by omega)).1;simp only[xlt0,xld0]at h6;simp only[xlm,List.length_range];have e:len*n=(len-1)*n+n:=by rw[<-Nat.succ_mul];congr 1;omega
   omega
  ·rw[xlm,xlm,List.length_range,List.map_map];have:=z4a (cs:=cs.map (absP W)) (o:=a.o) (n:=n) (fun i=>f (g i)) len fun i hi=>by
    rw[<-List.map_drop,<-List.map_take];exact(hg i hi).1
   exact this
  ·obtain⟨i,hi,rfl⟩:=List.mem_map.1 hx;exact(hg i (List.mem_range.1 hi)).2
end
end
end Go.Abs
