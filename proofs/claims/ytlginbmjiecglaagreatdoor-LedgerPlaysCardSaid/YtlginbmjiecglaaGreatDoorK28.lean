/- LedgerPlays: whatever the acts, the calls and the number, the function returns true, and nothing that was there has turned. It is said where the two variables coins hold what the program text lays in them; the card ties that to the text. -/
import Derived.Test.YtlginbmjiecglaaGreatDoorK27
import Derived.Handed
import Derived.HandedShaped
import Derived.OpenShut
import Derived.LaidMore
import Derived.Stop.Joined
import Derived.Test.YtlginbmjiecglaaGreatDoorTie
import Derived.Test.YtlginbmjiecglaaGreatDoorCards
import Derived.ProofKit
import Derived.MakeChecks
import Derived.SevenTiedAt
namespace Go.Proofs.YtlginbmjiecglaaGreatDoor
section
set_option maxRecDepth 16000
set_option maxHeartbeats 2000000
open Go Go.Abs
def z6V:List AV:=[.str j1X,.str j1Y,.str j1Z,.str [101,117,114]]
theorem z4m {M:Mem} {ro:Bool} (hc:M.get 0=some (.cells z6V ro)) {i:Int} (h0:0<=i) (h1:i<4):∃s j,ixA 1 4 ⟨0,0⟩ i=some (.ptr (some ⟨0,j⟩))/\ld1 M (.ptr (some ⟨0,j⟩))=some (.str s)/\s.length<=140737488355328:=by
 have:i=0\/i=1\/i=2\/i=3:=by omega
 rcases this with rfl|rfl|rfl|rfl
 ·exact⟨_,0,by simp[ixA],(q0g hc).trans rfl,by decide⟩
 ·exact⟨_,1,by simp[ixA],(q0g hc).trans rfl,by decide⟩
 ·exact⟨_,2,by simp[ixA],(q0g hc).trans rfl,by decide⟩
 ·exact⟨_,3,by simp[ixA],(q0g hc).trans rfl,by decide⟩
theorem b2C {u v:Int} (h0:0<=u) (h1:u<4) (h2:0<=v) (h3:v<4):0<=u*v/\u*v<=9:=by
 have:u=0\/u=1\/u=2\/u=3:=by omega
 rcases this with rfl|rfl|rfl|rfl<;>omega
def a3V:List AV:=[.int .i64 0,.int .u64 0,.int .u64 0,.str [],.str [],.int .i64 0,.int .u64 0,.int .i64 0,.int .i64 0,.bool false,.bool false]
section
variable {M:Mem} {B R:Nat} {t:q2i}
theorem z2j (gB:M.get B=some (.cells t.cells false)) (gR:M.get R=some (.cells a3V false)):∃M',D30.gor 98306 [.ptr (some ⟨B,0⟩),.ptr (some ⟨R,0⟩)] M=some (.agg t.cells,M')/\Fr M M' [R]:=by
 have l:=q0B (n:=11) gB rfl;have s:=q03 (n:=11) (v:=t.cells) gR rfl rfl rfl;obtain⟨M',hM'⟩:∃M',M'=M.put R (some (.cells t.cells false)):=⟨_,rfl⟩;rw[<-hM']at s;have g2:M'.get R=some (.cells t.cells false):=by rw[hM'];exact q0v gR
 have l2:=q0B (n:=11) g2 rfl;refine⟨M',?_,by rw[hM'];exact Fr.put _ _ _⟩;simp only[j36 (H:=H30),T.a6Z,q1,q0H,q0I,wp,l,s,l2]
theorem z2k (ok:t.ok) (gB:M.get B=some (.cells t.cells false)) (gR:M.get R=some (.cells a3V false)) (hBR:B≠R) :
  ∃t' M',q2i.ok t'/\D30.gor 98305 [.ptr (some ⟨B,0⟩),.ptr (some ⟨R,0⟩)] M=some (.agg t'.cells,M')/\Fr M M' [B,R]:=by
 have a0:∀i:Nat,ld1 M (.ptr (some ⟨B,i⟩))=t.cells[i]?:=fun i=>q0g gB
 obtain⟨k,hk⟩:∃k,k=t.what % 15:=⟨_,rfl⟩;have pk:=fun M=>q1k (H:=H30) rfl M t.what (n:=15) (by omega) (by omega)
 simp only[<-hk]at pk;by_cases h9:k=9
 ·have p1:=fun M=>q1k (H:=H30) rfl M t.n (n:=100000) (by omega) (by omega)
  have p2:=fun M=>q1k (H:=H30) rfl M t.n (n:=6) (by omega) (by omega)
  obtain⟨c,hc⟩:∃c,c=1+t.n % 100000:=⟨_,rfl⟩;have wc:IntKind.wrap .i64 (1+t.n % 100000)=c:=by rw[wrap_i64 (by omega) (by omega),hc]
  have o1:=fun M=>a2P (H:=H30) rfl (n:=c) (by omega) (by omega) M
  obtain⟨t',ht'⟩:∃t':q2i,t'={t with d:=Wd.of c,sc:=t.n % 6}:=⟨_,rfl⟩
  have ok':t'.ok:=by rw[ht'];exact⟨ok.w,ok.a,ok.b,ok.x,ok.y,Wd.q23 (q0V (by omega) (by omega)),ok.n⟩
  obtain⟨M1,hM1⟩:∃M1,M1=M.put B (some (.cells t'.cells false)):=⟨_,rfl⟩;have s1:stV M (.ptr (some ⟨B,5⟩)) (.agg [.int .i64 (Wd.of c).hi,.int .u64 (Wd.of c).lo,.int .i64 (t.n % 6)]) 3=some M1:=by
   rw[hM1,ht'];exact q1l gB (q1d rfl) rfl (by simp[q2i.cells])
  have g1:M1.get B=some (.cells t'.cells false):=by rw[hM1];exact q0v gB
  have f1:Fr M M1 [B]:=by rw[hM1];exact Fr.put _ _ _
  obtain⟨M2,e2,f2⟩:=z2j g1 (f1.get gR (by simp;exact fun e=>hBR e.symm))
  refine⟨t',M2,ok',?_,(f1.mono (by simp)).step f2 (by simp)⟩;simp only[q2i.cells]at a0;simp only[z4Q (H:=H30),T.a0x,p1,q1,p2,q0o,AV.cells,Nat.reduceAdd,Nat.reduceLeDiff,q0a,q0E,Wd.cells,AV.one,lcd,a0,pk,dt h9,wc,o1,s1,e2]
 ·obtain⟨M2,e2,f2⟩:=z2j gB gR;refine⟨t,M2,ok,?_,f2.mono (by simp)⟩;simp only[q2i.cells]at a0;simp only[z4Q (H:=H30),T.a0x,p1,q1,p2,q0o,AV.cells,Nat.reduceAdd,q0a,q0E,a0,pk,df h9,e2]
theorem j2S {m:Mem} {rb:Nat} {st:LSt} {G:List Nat} (h:q0L m rb st G) (w:LWf st) (f:Fr m M []) (hB:m.next<=B) {ro:Bool} (hc:M.get 0=some (.cells z6V ro)) (hCB:0≠B) (ok:t.ok) (gB:M.get B=some (.cells t.cells false)) (gR:M.get R=some (.cells a3V false)) (hBR:B≠R) :
  ∃t' M',q2i.ok t'/\D30.gor 98304 [.ptr (some ⟨rb,0⟩),.ptr (some ⟨B,0⟩),.ptr (some ⟨R,0⟩)] M=some (.agg t'.cells,M')/\Fr M M' [B,R]:=by
 have okn:=ok.n;have oka:=ok.a;have okb:=ok.b;have z5:(5:Int)≠0:=by omega
 have z4:(4:Int)≠0:=by omega
 have a0:∀i:Nat,ld1 M (.ptr (some ⟨B,i⟩))=t.cells[i]?:=fun i=>q0g gB
 obtain⟨A,hA⟩:∃A,A=1+t.a % 5:=⟨_,rfl⟩;have ra:t.a.tmod 5=t.a % 5:=Int.tmod_eq_emod_of_nonneg oka.1;have wA:IntKind.wrap .u64 (1+t.a % 5)=A:=by rw[wrap_u64 (by omega) (by omega),hA]
 obtain⟨t1,ht1⟩:∃t1:q2i,t1={t with a:=A}:=⟨_,rfl⟩
 obtain⟨M1,hM1⟩:∃M1,M1=M.put B (some (.cells t1.cells false)):=⟨_,rfl⟩;have s1:stV M (.ptr (some ⟨B,1⟩)) (.int .u64 A) 1=some M1:=by rw[hM1,ht1];exact q1l (vs:=[.int .u64 A]) gB rfl rfl (by simp[q2i.cells])
 have g1:M1.get B=some (.cells t1.cells false):=by rw[hM1];exact q0v gB
 have f1:Fr M M1 [B]:=by rw[hM1];exact Fr.put _ _ _
 have a1:∀i:Nat,ld1 M1 (.ptr (some ⟨B,i⟩))=t1.cells[i]?:=fun i=>q0g g1
 obtain⟨A',hA'⟩:∃A',A'=1+t.b % 5:=⟨_,rfl⟩;have rb':t.b.tmod 5=t.b % 5:=Int.tmod_eq_emod_of_nonneg okb.1;have wA':IntKind.wrap .u64 (1+t.b % 5)=A':=by rw[wrap_u64 (by omega) (by omega),hA']
 obtain⟨t2,ht2⟩:∃t2:q2i,t2={t1 with b:=A'}:=⟨_,rfl⟩
 obtain⟨M2,hM2⟩:∃M2,M2=M1.put B (some (.cells t2.cells false)):=⟨_,rfl⟩;have s2:stV M1 (.ptr (some ⟨B,2⟩)) (.int .u64 A') 1=some M2:=by rw[hM2,ht2];exact q1l (vs:=[.int .u64 A']) g1 rfl rfl (by simp[q2i.cells])
 have g2:M2.get B=some (.cells t2.cells false):=by rw[hM2];exact q0v g1
 have f2:Fr M M2 [B]:=f1.step (by rw[hM2];exact Fr.put _ _ _:Fr M1 M2 [B]) (by simp);have a2:∀i:Nat,ld1 M2 (.ptr (some ⟨B,i⟩))=t2.cells[i]?:=fun i=>q0g g2
 have p20:=fun M=>q1k (H:=H30) rfl M t.n (n:=20) (by omega) (by omega)
 have q20:=q2C (P:=Tryz.prog) 3 .i64 t.n 20 (by omega);have q7:=q2C (P:=Tryz.prog) 3 .i64 t.n 7 (by omega);rw[q85 okn.1 okn.2 (by omega)]at q20 q7;have p4:=fun M=>q1k (H:=H30) rfl M (t.n.tdiv 20) (n:=4) (by omega) (by omega)
 have p3:=fun M=>q1k (H:=H30) rfl M (t.n.tdiv 7) (n:=3) (by omega) (by omega)
 obtain⟨u,hu⟩:∃u,u=t.n % 20 % 4:=⟨_,rfl⟩;have ru:(t.n % 20).tmod 4=u:=by rw[hu];exact Int.tmod_eq_emod_of_nonneg (by omega)
 obtain⟨v,hv⟩:∃v,v=t.n.tdiv 20 % 4:=⟨_,rfl⟩;simp only[<-hv]at p4;obtain⟨mu0,mu1⟩:=b2C (u:=u) (v:=v) (by omega) (by omega) (by omega) (by omega);have wuv:IntKind.wrap .i64 (u*v)=u*v:=wrap_i64 (by omega) (by omega);obtain⟨i1,hi1⟩:∃i1,i1=(u*v) % 4:=⟨_,rfl⟩;have ri:(u*v).tmod 4=i1:=by rw[hi1];exact Int.tmod_eq_emod_of_nonneg mu0
 obtain⟨s3n,j3,x3,y3,z3⟩:=z4m (f2.get hc (by simp;omega)) (i:=i1) (by omega) (by omega);obtain⟨t3,ht3⟩:∃t3:q2i,t3={t2 with x:=s3n}:=⟨_,rfl⟩
 obtain⟨M3,hM3⟩:∃M3,M3=M2.put B (some (.cells t3.cells false)):=⟨_,rfl⟩;have s3:stV M2 (.ptr (some ⟨B,3⟩)) (.str s3n) 1=some M3:=by rw[hM3,ht3];exact q1l (vs:=[.str s3n]) g2 rfl rfl (by simp[q2i.cells])
 have g3:M3.get B=some (.cells t3.cells false):=by rw[hM3];exact q0v g2
 have f3:Fr M M3 [B]:=f2.step (by rw[hM3];exact Fr.put _ _ _:Fr M2 M3 [B]) (by simp);have a3:∀i:Nat,ld1 M3 (.ptr (some ⟨B,i⟩))=t3.cells[i]?:=fun i=>q0g g3
 obtain⟨i2,hi2⟩:∃i2,i2=t.n.tdiv 7 % 3:=⟨_,rfl⟩;simp only[<-hi2]at p3;obtain⟨s4n,j4,x4,y4,z4'⟩:=z4m (f3.get hc (by simp;omega)) (i:=i2) (by omega) (by omega);obtain⟨t4,ht4⟩:∃t4:q2i,t4={t3 with y:=s4n}:=⟨_,rfl⟩
 obtain⟨M4,hM4⟩:∃M4,M4=M3.put B (some (.cells t4.cells false)):=⟨_,rfl⟩;have s4:stV M3 (.ptr (some ⟨B,4⟩)) (.str s4n) 1=some M4:=by rw[hM4,ht4];exact q1l (vs:=[.str s4n]) g3 rfl rfl (by simp[q2i.cells])
 have g4:M4.get B=some (.cells t4.cells false):=by rw[hM4];exact q0v g3
 have f4:Fr M M4 [B]:=f3.step (by rw[hM4];exact Fr.put _ _ _:Fr M3 M4 [B]) (by simp);have a4:∀i:Nat,ld1 M4 (.ptr (some ⟨B,i⟩))=t4.cells[i]?:=fun i=>q0g g4
 have am:=fun M=>z8w (H:=H30) rfl okn.1 okn.2 M
 obtain⟨t5,ht5⟩:∃t5:q2i,t5={t4 with d:=(q17 t.n).1,sc:=(q17 t.n).2}:=⟨_,rfl⟩
 obtain⟨M5,hM5⟩:∃M5,M5=M4.put B (some (.cells t5.cells false)):=⟨_,rfl⟩;have s5:stV M4 (.ptr (some ⟨B,5⟩)) (.agg (q0u (q17 t.n).1 (q17 t.n).2)) 3=some M5:=by rw[hM5,ht5];exact q1l g4 (q1d rfl) rfl (by simp[q2i.cells])
 have g5:M5.get B=some (.cells t5.cells false):=by rw[hM5];exact q0v g4
 have f5:Fr M M5 [B]:=f4.step (by rw[hM5];exact Fr.put _ _ _:Fr M4 M5 [B]) (by simp);have a5:∀i:Nat,ld1 M5 (.ptr (some ⟨B,i⟩))=t5.cells[i]?:=fun i=>q0g g5
 have ok5:t5.ok:=by rw[ht5,ht4,ht3,ht2,ht1];exact⟨ok.w,⟨by simp only;omega,by simp only;omega⟩,⟨by simp only;omega,by simp only;omega⟩,z3,z4',q8F _,ok.n⟩
 have hn5:t5.n=t.n/\t5.fits=t.fits/\t5.a=A:=by rw[ht5,ht4,ht3,ht2,ht1];exact⟨rfl,rfl,rfl⟩
 have R5:=f5.get gR (by simp;exact fun e=>hBR e.symm)
 cases hf:t.fits with
 |false=>
  obtain⟨t',M',o',e',F'⟩:=z2k ok5 g5 R5 hBR;refine⟨t',M',o',?_,(f5.mono (by simp)).step F' (by simp)⟩;simp only[ht5,ht4,ht3,ht2,ht1,q2i.cells,hf]at a0 a1 a2 a3 a4 a5;simp only[z4P (H:=H30),T.a0w,p1,q1,p2,pB,q0d,q0a,Nat.reduceAdd,q0F,a0,q18 _ _ _ _ z5,ra,wA,s1,a1,rb',wA',s2,a2,p20,q18 _ _ _ _ z4,ru,q20,p4,wuv,ri,x3,y3,s3,a3,q7,p3,x4,y4,s4,a4,am,s5,a5,if_true,e']
 |true=>
  have ba:=a3e (H:=H30) rfl h w A M5 (f.step f5 (by simpa using hB));obtain⟨M6,hM6⟩:∃M6,M6=M5.lay (.cells (q0u (q0D st A).1 (q0D st A).2.1) false):=⟨_,rfl⟩;have s6:stV (M5.lay (.cells [.int .i64 0,.int .u64 0,.int .i64 0] false)) (.ptr (some ⟨M5.next,0⟩)) (.agg (q0u (q0D st A).1 (q0D st A).2.1)) 3=some M6:=by rw[q03 (n:=3) (q0f M5 _) rfl rfl rfl,q1f,hM6]
  have f6:Fr M5 M6 []:=by rw[hM6];exact(Fr.refl _).lay _
  have l6:∀i:Nat,ld1 M6 (.ptr (some ⟨M5.next,i⟩))=(q0u (q0D st A).1 (q0D st A).2.1)[i]?:=fun i=>q0g (by rw[hM6];exact q0f _ _)
  have g6:=f6.get g5 (by simp);obtain⟨t7,ht7⟩:∃t7:q2i,t7={t5 with sc:=(q0D st A).2.1}:=⟨_,rfl⟩
  obtain⟨M7,hM7⟩:∃M7,M7=M6.put B (some (.cells t7.cells false)):=⟨_,rfl⟩;have s7:stV M6 (.ptr (some ⟨B,7⟩)) (.int .i64 (q0D st A).2.1) 1=some M7:=by rw[hM7,ht7];exact q1l (vs:=[.int .i64 (q0D st A).2.1]) g6 rfl rfl (by simp[q2i.cells])
  have g7:M7.get B=some (.cells t7.cells false):=by rw[hM7];exact q0v g6
  have f7:Fr M6 M7 [B]:=by rw[hM7];exact Fr.put _ _ _
  have ok7:t7.ok:=by rw[ht7];exact⟨ok5.w,ok5.a,ok5.b,ok5.x,ok5.y,ok5.d,ok5.n⟩
  obtain⟨t',M',o',e',F'⟩:=z2k ok7 g7 (f7.get (f6.get R5 (by simp)) (by simp;exact fun e=>hBR e.symm)) hBR
  refine⟨t',M',o',?_,(((f5.step0 f6).step f7 (by simp)).mono (by simp)).step F' (by simp)⟩;simp only[q0u]at l6;simp only[ht5,ht4,ht3,ht2,ht1,q2i.cells,hf]at a0 a1 a2 a3 a4 a5;simp only[z4P (H:=H30),T.a0w,p1,q1,p2,pB,q0d,q0a,Nat.reduceAdd,q0F,a0,q18 _ _ _ _ z5,ra,wA,s1,a1,rb',wA',s2,a2,p20,q18 _ _ _ _ z4,ru,q20,p4,wuv,ri,x3,y3,s3,a3,q7,p3,x4,y4,s4,a4,am,s5,a5,ba,s6,l6,s7,if_true,e']
end
theorem j6H {m:Mem} {rb:Nat} {st:LSt} {G:List Nat} (h:q0L m rb st G) (w:LWf st) {ro:Bool} (hc:m.get 0=some (.cells z6V ro)) {t:q2i} (ok:t.ok) :
  ∃t',q2i.ok t'/\Res m (run E30 (.fn 24) [.ptr (some ⟨rb,0⟩),.agg t.cells] m) (.agg t'.cells):=by
 obtain⟨M0,hM0⟩:∃M0,M0=m.lay (.cells t.cells false):=⟨_,rfl⟩;obtain⟨M1,hM1⟩:∃M1,M1=M0.lay (.cells a3V false):=⟨_,rfl⟩;have n0:M0.next=m.next+1:=by rw[hM0];rfl
 have f0:Fr m M0 []:=by rw[hM0];exact(Fr.refl _).lay _
 have f1:Fr M0 M1 []:=by rw[hM1];exact(Fr.refl _).lay _
 have g1:M1.get m.next=some (.cells t.cells false):=f1.get (by rw[hM0];exact q0f _ _) (by simp)
 have r1:M1.get (m.next+1)=some (.cells a3V false):=by rw[hM1,<-n0];exact q0f _ _
 have hCL:=Mem.q0x hc;have a1:∀i:Nat,ld1 M1 (.ptr (some ⟨m.next,i⟩))=t.cells[i]?:=fun i=>q0g g1
 cases hn:t.near with
 |false=>
  have l:=q0B (n:=11) g1 rfl;have s:=q03 (n:=11) (v:=t.cells) r1 rfl rfl rfl;obtain⟨M',hM'⟩:∃M',M'=M1.put (m.next+1) (some (.cells t.cells false)):=⟨_,rfl⟩
  rw[<-hM']at s;have g2:M'.get (m.next+1)=some (.cells t.cells false):=by rw[hM'];exact q0v r1
  have l2:=q0B (n:=11) g2 rfl;refine⟨t,ok,M',?_,(f0.step0 f1).step (by rw[hM'];exact Fr.put _ _ _:Fr M1 M' [m.next+1]) (by simp)⟩
  simp only[q2i.cells,hn]at a1 l s l2 hM0⊢;simp only[a3V]at hM1;simp only[j64 (H:=H30) rfl,T.f24,pB,p1,q1,q0K,q0a,unA,q0H,q0I,q0e,AV.cells,on1,lcs,ge,if_true,xom,Mem.q0t,<-hM0,<-hM1,a1,xbf,l,s,l2]
 |true=>
  obtain⟨t',M',o',e',F'⟩:=j2S (B:=m.next) (R:=m.next+1) h w (f0.step0 f1) (xnr _) ((f0.step0 f1).get hc (by simp)) (by omega) ok g1 r1 (by omega)
  refine⟨t',o',M',?_,(f0.step0 f1).step F' (by simp)⟩;simp only[q2i.cells,hn]at a1 hM0⊢;simp only[q2i.cells]at e';simp only[a3V]at hM1;simp only[j64 (H:=H30) rfl,T.f24,pB,p1,q1,q0K,q0a,unA,q0H,q0I,q0e,AV.cells,on1,lcs,ge,if_true,xom,Mem.q0t,<-hM0,<-hM1,a1,xbt,e']
end
section
set_option maxRecDepth 16000
set_option maxHeartbeats 2000000
open Go Go.Abs
theorem b1s:∃e,Tryz.prog.underlying 58=some (.slice e)/\szT Tryz.prog e=some 11:=⟨65,by kernel_rfl,by kernel_rfl⟩
theorem z7Z (st:LSt):z0q st st=true:=by unfold z0q;simp
section
variable {m:Mem} {lb rb:Nat} {st:LSt} {F G:List Nat}
theorem z6P (h:Both m lb rb st F G):q80 st:=by
 have w:=h.inv.w;have:=w.lp;have:=w.lq;have:=w.la;exact⟨by omega,by omega,by omega⟩
theorem z1Y (h:Both m lb rb st F G):∃m',D30.gor 20484 [.ptr (some ⟨lb,0⟩),.ptr (some ⟨rb,0⟩)] m=some (.bool true,m'):=by
 have w:=h.inv.w;obtain⟨sp,sq,sa,m3,r1,r2,r3,b1,bp,bq,ba,f3,e1,e2,e3⟩:=j9e h.l w;have b1':=(z7O (H:=H30) (f:=16) rfl _ _).trans b1;obtain⟨tp,tq,ta,hg,bk⟩:=h.r.v;have l0:ldN m (.ptr (some ⟨rb,0⟩)) 4=some (.agg [tp,tq,ta,.int .u64 st.latest]):=by rw[q0Z hg (by simp)];rfl
 have l3:ldN m3 (.ptr (some ⟨rb,0⟩)) 4=some (.agg [tp,tq,ta,.int .u64 st.latest]):=by rw[q0Z (f3.get hg (by simp)) (by simp)];rfl
 have sm:=a3x (H:=H30) rfl (⟨bp.v,bq.v,ba.v⟩:BkV m3 sp sq sa st) (bk.q0l f3) (z6P h) m3 (Fr.refl _);rw[z7Z]at sm;refine⟨m3,?_⟩;simp only[a0Y (H:=H30),T.b1D,p1,q1,nnA,q0e,b1',l0,l3,if_true,sm]
end
theorem z7F {m0:Mem} {sl:AV} {ts:List q2i} (hv:z2t 11 m0 sl (ts.map (·.cells))) (hok:∀t∈ts,q2i.ok t) {ro:Bool} (hc:m0.get 0=some (.cells z6V ro)) {lb rb:Nat}:∀(d i:Nat) (M:Mem) (st:LSt) (F G:List Nat),i+d=ts.length->Fr m0 M []->Both M lb rb st F G->(∀c,c∈F++G->m0.next<=c)->
  ∃M',D30.gor 20481 [sl,.ptr (some ⟨lb,0⟩),.ptr (some ⟨rb,0⟩),.int .i64 (i:Int)] M=some (.bool true,M'):=by
 obtain⟨e,he,hss⟩:=b1s;intro d;induction d with
 |zero=>
  intro i M st F G hi hf h hb;have hle:i=ts.length:=by omega
  subst hle;have l1:=(hv.q0l hf).q2X he;rw[xlm]at l1;obtain⟨M',e'⟩:=z1Y h;refine⟨M',?_⟩;simp only[z3f (H:=H30),T.b0x,p1,p2,q0a,ifV,wp,l1,df (show ¬((ts.length:Nat):Int)<(ts.length:Int) by omega),e']
 |succ d ih=>
  intro i M st F G hi hf h hb;have hlt:i<ts.length:=by omega
  have l1:=(hv.q0l hf).q2X he;rw[xlm]at l1;by_cases h120:i<120
  ·obtain⟨bs,o,_,x2,_,_,x5⟩:=(hv.q0l hf).ixT he hss (i:=i) (by rw[xlm];exact hlt);rw[xgm]at x5;obtain⟨t',ok',M1,e1,f1⟩:=j6H h.r h.inv.w (hf.get hc (by simp)) (hok _ (List.getElem_mem hlt));obtain⟨er,st',M2,F',G',e2,B',_,fr,hin⟩:=b0k (h.q0l f1) ok';have n1:=f1.next
   have nf:=hf.next
   obtain⟨M',e'⟩:=ih (i+1) M2 st' F' G' (by omega) ((hf.step0 f1).step fr (fun c hc=>.inr (hb c hc))) B' (fun c hc=>(hin c hc).elim (hb c) (by omega))
   refine⟨M',?_⟩;simp only[z3f (H:=H30),T.b0x,p1,p2,q0a,ifV,wp,l1,dt (show (i:Int)<(ts.length:Int) by omega),dt (show (i:Int)<120 by omega)];simp only[a0W (H:=H30),T.b1B,p2,q1,p1,q0d,q0a,unA,q04,x2,x5,e1,e2,xbt];simp only[a0X (H:=H30),T.b1C,p2,wp,show (i:Int)+1=((i+1:Nat):Int) by omega,wrap_i64 (n:=((i+1:Nat):Int)) (by omega) (by omega),e']
  ·obtain⟨M',e'⟩:=z1Y h;refine⟨M',?_⟩;simp only[z3f (H:=H30),T.b0x,p1,p2,q0a,ifV,wp,l1,dt (show (i:Int)<(ts.length:Int) by omega),df (show ¬(i:Int)<120 by omega),e']
theorem j1Q (m:Mem) {sa0 sl:AV} {acts:List (Int×Int×Int×Int)} {ts:List q2i} (hv0:z2t 4 m sa0 (acts.map j8T)) (hN:∀a∈acts,i64 a.2.2.2) (hv:z2t 11 m sl (ts.map (·.cells))) (hok:∀t∈ts,q2i.ok t)
  (hco:∃ro,m.get 1=some (.cells z6S ro)) (hcl:∃ro,m.get 0=some (.cells z6V ro)) (most:Int) :
  ∃m',run E30 (.fn 5) [.int .i64 most,sa0,sl] m=some (.bool true,m'):=by
 obtain⟨rl,hcl⟩:=hcl;have pk:=fun M=>q1k (H:=H30) rfl M most (n:=8) (by omega) (by omega)
 obtain⟨n,hn⟩:∃n,n=1+most % 8:=⟨_,rfl⟩;have wn:IntKind.wrap .i64 (1+most % 8)=n:=by rw[wrap_i64 (by omega) (by omega),hn]
 obtain⟨st,sp,sq,sa,m1,h1,g,hmost,hbk,f1⟩:=j5U hv0 hN hco (most:=n) (by omega);have h1':=(z7P (H:=H30) (f:=9) rfl _ _).trans h1;have w:=g.w;have bv:=hbk.v;obtain⟨M2,hM2⟩:∃M2,M2=m1.lay (.cells [sp,sq,sa,.int .u64 st.latest] false):=⟨_,rfl⟩;have f2:Fr m1 M2 []:=by rw[hM2];exact(Fr.refl _).lay _
 have s2:stV (m1.lay (.cells [.sl none 0 0 0 true,.sl none 0 0 0 true,.sl none 0 0 0 true,.int .u64 0] false)) (.ptr (some ⟨m1.next,0⟩)) (.agg [sp,sq,sa,.int .u64 st.latest]) 4=some M2:=by rw[q03 (n:=4) (q0f m1 _) rfl rfl (bv.one _),q1f,hM2]
 have g2:M2.get m1.next=some (.cells [sp,sq,sa,.int .u64 st.latest] false):=by rw[hM2];exact q0f _ _
 have l2:ldN M2 (.ptr (some ⟨m1.next,0⟩)) 4=some (.agg [sp,sq,sa,.int .u64 st.latest]):=q0B g2 rfl
 obtain⟨tp,tq,ta,rp,rq,ra,m3,c1,t1,t2,t3,f3,q1,q2,q3,q4,q5,q6⟩:=z8Q (bv.q0l f2) w;obtain⟨lb,m4,F,h4,L4,f4,hF4⟩:=a0k (⟨t1.v,t2.v,t3.v⟩:BkV m3 tp tq ta st) g;rw[hmost]at h4;have h4':=(b1o (H:=H30) (f:=12) rfl _ _).trans h4;have kn:=j5Y (H:=H30) rfl m4;have g4:=f4.get (f3.get g2 (by simp)) (by simp);have l4:ldN m4 (.ptr (some ⟨m1.next,0⟩)) 4=some (.agg [sp,sq,sa,.int .u64 st.latest]):=q0B g4 rfl
 obtain⟨up,uq,ua,yp,yq,ya,m5,c5,v1,v2,v3,f5,p1',p2',p3',p4',p5',p6'⟩:=z8Q (((bv.q0l f2).q0l f3).q0l f4) w;obtain⟨M6,hM6⟩:∃M6,M6=m5.lay (.cells [up,uq,ua,.int .u64 st.latest,.int .i64 n] false):=⟨_,rfl⟩;have f6:Fr m5 M6 []:=by rw[hM6];exact(Fr.refl _).lay _
 have g6:M6.get m5.next=some (.cells [up,uq,ua,.int .u64 st.latest,.int .i64 n] false):=by rw[hM6];exact q0f _ _
 have lt1:=v1.lt;have lt2:=v2.lt;have lt3:=v3.lt;have n1:=f1.next
 have n2:=f2.next
 have n3:=f3.next
 have n4:=f4.next
 have n5:=f5.next
 have R6:q0L M6 m5.next st (m5.next::([yp]++[yq]++[ya])):=by
  refine⟨up,uq,ua,some yp,some yq,some ya,by rw[hmost];exact g6,v1.frame f6 (by simp),v2.frame f6 (by simp),v3.frame f6 (by simp),?_,?_,?_,?_,?_,?_,rfl⟩
  ·simp;omega
  ·simp;omega
  ·simp;omega
  ·intro c hc;simp at hc⊢;omega
  ·intro c hc;simp at hc⊢;omega
  ·intro c hc;simp at hc⊢;omega
 have B6:Both M6 lb m5.next st F (m5.next::([yp]++[yq]++[ya])):=by
  refine⟨(L4.q0l f5).q0l f6,R6,fun c hc=>?_,g⟩
  have:=L4.lt c hc;simp;omega
 have f16:Fr m M6 []:=((((f1.step0 f2).step0 f3).step0 f4).step0 f5).step0 f6;obtain⟨M',e'⟩:=z7F hv hok hcl (lb:=lb) (rb:=m5.next) ts.length 0 M6 st F _ (by omega) f16 B6 (fun c hc=>by
  rcases xma.1 hc with hc|hc
  ·have:=hF4 c hc;omega
  ·simp at hc;omega)
 refine⟨M',?_⟩;simp only[Int.natCast_zero]at e';have o1:=v1.one;have o2:=v2.one;have o3:=v3.one;simp only[b0R (H:=H30) rfl,T.f5,p2,pB,p1,q0d,q0a,ifV,unA,b2O,pk,wn,h1',s2,l2,c1,h4',kn,xbt,decide_true];simp only[a0V (H:=H30),T.b1A,p1,q0o,AV.cells,Nat.reduceAdd,Nat.reduceLeDiff,q0K,q0w,on1,lcs,ge,l4,c5,o1,o2,o3,<-hM6,e']
end
end Go.Proofs.YtlginbmjiecglaaGreatDoor
namespace Go.Abs
section
open Go Go.ChangeShapes Go.WideShapes Go.ChangeAt Go.RowKit
theorem q6b {H:Type} {enc:TypeId×Value->H} {a:Assume} {C:Checked} {os:Os} {f:FuncId} {fn:Func} {s:ChangeSpec} {conds:List PathCond} {apart fresh handsOn again:Bool} {X:World->Array Value->Prop}
  (hX:∀(w w':World) (args:Array Value),w.heap=w'.heap->X w args->X w' args)
  (own:ownKnob C.prog.godebug=none) (started:os.Started) (noInit:C.prog.inits.idxOf? f=none) (hfn:C.prog.funcs[f]? = some fn)
  (witness:∃(w:World) (tape:Tape) (i:Input),w.os=os/\(w.forCall tape i).Shaped C.prog/\i.vars=[]/\Input.okWide C.prog (w.forCall tape i) .any w.heap.size f i/\
   ((s.pre enc C.prog fn conds apart (w.forCall tape i).memory i.args/\X (w.forCall tape i).memory i.args)/\sizedMet enc C.prog fn (OpenSpec.ofChange s) apart (w.forCall tape i).memory i.args)/\a.holds C.prog (lone (Frame.enter C.prog f i.args .normal) [] (w.forCall tape i)))
  (contract:∀(W:World) (base:Nat) (args:Array Value) (ds gs:List (DataW H)) (before:List MemPlace),
   (∀(j:Nat) t v,fn.params[j]? = some t->args[j]? = some v->Value.okWide C.prog W .any base t v)->
   DataW.Whole enc C.prog fn.params.toList s.vars apart W args.toList ds gs before->
   conds.all (PathCond.test C.prog ⟨fn.params.toList,ds,s.plain.varTypes C.prog,gs⟩)=true->
   (DataW.weightsEach C.prog (fn.params.toList++s.plain.varTypes C.prog) (ds++gs)).all (·<=reachBytes)=true->X W args->W.ShapedOpen C.prog->
   a.holds C.prog (lone (Frame.enter C.prog f args .normal) [] W)->
   Calls C.prog f args W fun e W'=>∃v,e=.returned v/\s.post enc C.prog fn apart fresh handsOn again W args v W') :
  ReturnsInHanded a C os f .any (fun w args=>(s.pre enc C.prog fn conds apart w args/\X w args)/\sizedMet enc C.prog fn (OpenSpec.ofChange s) apart w args) (s.post enc C.prog fn apart fresh handsOn again):=by
 refine returnsInHanded_of_calls own started noInit witness ?_;intro w tape i _ hsh _ hok hpre hholds;obtain⟨_,_,_,fn',hfn',_,_,_,_,hval⟩:=hok;have e:fn'=fn:=xsj (hfn'.symm.trans hfn);subst e;obtain⟨⟨⟨ds,gs,before,hw,hc⟩,hx⟩,hz⟩:=hpre;have hw':=DataW.Whole.of_heap (w':=w.forCall tape i) (by rfl) hw;refine(contract (w.forCall tape i) w.heap.size i.args ds gs before hval hw' hc (hz.weights hw) (hX _ _ _ (by rfl) hx) hsh hholds).mono fun e W' ⟨v,he,hp⟩=>?_
 subst he;exact ChangeSpec.post_blind hp
section
variable {P:Program} {W:World} {H:Type} {enc:TypeId×Value->H} {t e:TypeId} {b:Nat} {sp:Nat->Bool} {held:Bool} {f n:Nat}
theorem z1L {cs:List Value} {ss:List (List UInt8)} {p:List MemPlace} (hd:DataW.trod enc P W b sp held f t cs=some (.agg (ss.map fun s=>.lit (.string s)),p)) (ht:P.underlying t=some (.array n e)) (he:P.underlying e=some .string) (hc:P.cellsOf e=1) (hct:P.cellsOf t=n) :
  cs.map (absP W)=ss.map AV.str:=by
 obtain⟨xs,m,rfl,hx,hl,hn,hel⟩:=DataW.trod_array ht hd;simp only[Prod.mk.injEq,DataW.agg.injEq]at hx;have hxl:ss.length=n:=by have:=congrArg List.length hx.1;simp at this;omega
 apply List.ext_getElem?;intro i;by_cases hi:i<n
 ·have h1:=hel i hi;rw[hc,Nat.mul_one,xgq (by omega)]at h1;obtain⟨s,e1,e2,_⟩:=DataW.trod_string he h1;have h2:cs[i]? = some (.string s):=by
   have:((cs.drop i).take 1)[0]? = some (.string s):=by rw[e1];rfl
   rw[List.getElem?_take,if_pos (by omega),List.getElem?_drop,xna]at this;exact this
  have h3:ss[i]? = some s.data.toList:=by
   have h4:=congrArg (fun l=>l[i]?) hx.1
   simp only[List.getElem?_map]at h4;rw[xgq (by omega),xgq (by omega),e2]at h4;simp only[xom,xoi,DataW.lit.injEq,Lit.string.injEq]at h4;rw[xgq (by omega),h4]
  rw[List.getElem?_map,List.getElem?_map,h2,h3];rfl
 ·rw[List.getElem?_eq_none (by simp;omega),List.getElem?_eq_none (by simp;omega)]
theorem j23 {nm:String} {g:Nat} {cs:Array Value} (hg:P.globalNamed nm=some g) (h:W.var? P nm=some cs):(z0A W).get g=some (.cells (cs.toList.map (absP W)) true):=by
 simp only[World.var?,hg,Option.bind_some]at h;rw[q4n];unfold q4N;split at h
 ·rename_i e;cases h;rw[e]
 ·cases h
end
end
section
open Go
section
variable {P:Program} {W:World} {H:Type} {enc:TypeId×Value->H} {t e:TypeId} {v:Value} {base:Nat}
theorem q8l:∀{l:List (DataW H)} {y:DataW H},y∈l->∀k,k∈y.weights P e->k∈DataW.weightsAll P e l
 |a::l,y,hy,k,hk=>by
  simp only[DataW.weightsAll,xma];rcases xmk0.1 hy with rfl|hy
  ·exact .inl hk
  ·exact .inr (q8l hy k hk)
theorem z0y (ht:P.underlying t=some (.slice e)) {l s:List (DataW H)} {y:DataW H} (hy:y∈l):∀k,k∈y.weights P e->k∈(DataW.slice l s).weights P t:=fun k hk=>by
 simp only[DataW.weights,ht,xmk0,xma];exact .inr (.inl (q8l hy k hk))
theorem trod_string {b:Nat} {sp:Nat->Bool} {held:Bool} {m:Nat} {V:Value} {x:DataW H×List MemPlace} (ht:P.underlying t=some .string)
  (h:DataW.trod enc P W b sp held m t [V]=some x):∃s:ByteArray,V=.string s/\s.data.toList.length∈x.1.weights P t:=by
 cases m with
 |zero=>simp[DataW.trod]at h
 |succ m=>
  simp only[DataW.trod,ht]at h;cases V<;>simp only at h<;>first|(cases h;done)|skip
  split at h
  ·cases h;exact⟨_,rfl,by simp[DataW.weights]⟩
  ·cases h
theorem q6M {b:Nat} {sp:Nat->Bool} {held:Bool} {m:Nat} {cs:List Value}:∀{l:List Field} {r:List (DataW H×List MemPlace)},(l.mapM fun f=>DataW.trod enc P W b sp held m f.type ((cs.drop f.offset).take (P.cellsOf f.type)))=some r->
  ∀f∈l,∃y,DataW.trod enc P W b sp held m f.type ((cs.drop f.offset).take (P.cellsOf f.type))=some y/\∀k,k∈y.1.weights P f.type->k∈DataW.weightsEach P (l.map (·.type)) (r.map (·.1))
 |a::l,r,h,f,hf=>by
  rw[List.mapM_cons]at h;obtain⟨y,h1,h2⟩:=be h;obtain⟨r',h3,h4⟩:=be h2;cases h4;simp only[List.map_cons,DataW.weightsEach,xma];rcases xmk0.1 hf with rfl|hf
  ·exact⟨y,h1,fun k hk=>.inl hk⟩
  ·obtain⟨y',e1,e2⟩:=q6M h3 f hf;exact⟨y',e1,fun k hk=>.inr (e2 k hk)⟩
theorem q4f {fs:Array Field} {b:Nat} {sp:Nat->Bool} {held:Bool} {m:Nat} {cs:List Value} {x:DataW H×List MemPlace} (ht:P.underlying t=some (.struct fs))
  (h:DataW.trod enc P W b sp held m t cs=some x) :
  ∃m',cs.length=P.cellsOf t/\∀f∈fs.toList,∃y,DataW.trod enc P W b sp held m' f.type ((cs.drop f.offset).take (P.cellsOf f.type))=some y/\∀k,k∈y.1.weights P f.type->k∈x.1.weights P t:=by
 cases m with
 |zero=>simp[DataW.trod]at h
 |succ m=>
  simp only[DataW.trod,ht]at h;split at h
  ·rename_i h1;obtain⟨r,h2,rfl⟩:=xoe.1 h;refine⟨m,h1,fun f hf=>?_⟩
   obtain⟨y,e1,e2⟩:=q6M h2 f hf;exact⟨y,e1,fun k hk=>by simp only[DataW.weights,ht];exact e2 k hk⟩
  ·cases h
theorem z6K {d:DataW H} {p:List MemPlace} (ht:P.underlying t=some (.slice e)) (h:Value.okWide P W .any base t v) (hr:DataW.Trod enc P W 0 (fun _=>true) true t v d p) :
  z2F W v=.sl none 0 0 0 true\/
  ∃(a:AA) (len cap:Nat) (cs:List Value),z2F W v=.sl (some a) 0 len cap true/\len<=cap/\(z0A W).get a.b=some (.cells (cs.map (absP W)) true)/\
   ∃m,∀i,i<len->((cs.drop (a.o+i*P.cellsOf e)).take (P.cellsOf e)).length=P.cellsOf e/\
    ∃y,DataW.trod enc P W 0 (fun _=>true) true m e ((cs.drop (a.o+i*P.cellsOf e)).take (P.cellsOf e))=some y/\∀k,k∈y.1.weights P e->k∈d.weights P t:=by
 unfold Value.okWide at h;simp only[ht]at h;unfold Cell.okWide at h;simp only[ht]at h;unfold Cell.ok at h;simp only[ht]at h;obtain⟨fuel,hr⟩:=hr;cases v<;>first|exact False.elim h|skip
 rename_i a len cap;cases a with
 |none=>
  left;cases len with
  |zero=>cases cap with
   |zero=>rfl
   |succ n=>exact False.elim h
  |succ n=>exact False.elim h
 |some a=>
  right;simp only at h;obtain⟨h1,h2,_,h3,row,n,h4,h5⟩:=h;unfold World.shape? at h4;split at h4
  ·rename_i c el fr hc;rcases Go.Deep.open_slice ht hr with ⟨h6,_⟩|⟨a',len',cap',mm,n',D,Pl,h6,_,_,_,h7,hd,h8⟩
   ·simp[Value.cells]at h6
   ·simp only[Value.cells,List.cons.injEq,and_true]at h6;injection h6 with e1 e2 e3
    cases e1;subst e2;subst e3;cases hd;refine⟨⟨a.block,a.off⟩,len,cap,c.toList,?_,h1,?_,n',fun i hi=>?_⟩
    ·simp[z2F,absP,h3,isCells,hc,h1]
    ·rw[q4n,q4N,hc]
    ·obtain⟨cs',h9,h10⟩:=h8 i (by rw[h7];simp;omega);obtain⟨_,h11,h12⟩:=World.cells?_some h9;have:(c.toList.drop (a.off+i*P.cellsOf e)).take (P.cellsOf e)=cs':=by
      apply List.ext_getElem?;intro j;rw[List.getElem?_take,List.getElem?_drop];split
      ·rename_i hj;rw[<-h12 j hj];rw[q6W h3,q6W rfl];simp[World.cell?,hc]
      ·rw[List.getElem?_eq_none (by omega)]
     simp only;rw[this];exact⟨h11,_,h10,z0y ht (List.mem_map.2 ⟨i,List.mem_range.2 hi,rfl⟩)⟩
  ·cases h4
theorem z8z {α:Type} [Inhabited α] {f:α->List AV} {Q:α->Prop} {n B:Nat} (hn0:0<n) {d:DataW H} {p:List MemPlace} (ht:P.underlying t=some (.slice e)) (hn:P.cellsOf e=n) (h:Value.okWide P W .any base t v) (hr:DataW.Trod enc P W 0 (fun _=>true) true t v d p)
  (hB:∀k,k∈d.weights P t->k<=B)
  (hel:∀(m:Nat) (cs:List Value) (y:DataW H×List MemPlace),cs.length=n->DataW.trod enc P W 0 (fun _=>true) true m e cs=some y->(∀k,k∈y.1.weights P e->k<=B)->∃a,cs.map (absP W)=f a/\Q a) (hf:∀a,(f a).length=n/\(f a).all AV.one=true) :
  ∃l:List α,z2t n (z0A W) (z2F W v) (l.map f)/\∀a∈l,Q a:=by
 rcases z6K ht h hr with h|⟨a,len,cap,cs,h1,h2,h3,m,h4⟩
 ·exact⟨[],.inl ⟨by simp,.inl ⟨rfl,_,_,_,h⟩⟩,by simp⟩
 ·rw[hn]at h4;have h5:∀i,i<len->∃x,((cs.drop (a.o+i*n)).take n).map (absP W)=f x/\Q x:=fun i hi=>by
   obtain⟨h6,y,h7,h8⟩:=h4 i hi;exact hel m _ y h6 h7 fun k hk=>hB k (h8 k hk)
  obtain⟨g,hg⟩:=Go.Deep.choose_lt h5;by_cases h0:len=0
  ·subst h0;exact⟨[],.inr ⟨rfl,some a,0,cap,true,h1⟩,by simp⟩
  refine⟨(List.range len).map g,.inl ⟨fun x hx=>?_,.inr ⟨a.b,a.o,0,cap,true,true,cs.map (absP W),?_,.inr rfl,h3,?_,?_⟩⟩,fun x hx=>?_⟩
  ·obtain⟨y,_,rfl⟩:=List.mem_map.1 hx;exact hf y
  ·simpa using h1
  ·have h6:=(h4 (len-1) (by omega)).1;simp only[xlt0,xld0]at h6;simp only[xlm,List.length_range];have e:len*n=(len-1)*n+n:=by rw[<-Nat.succ_mul];congr 1;omega
   omega
  ·rw[xlm,xlm,List.length_range,List.map_map];have:=z3Q (cs:=cs.map (absP W)) (o:=a.o) (n:=n) (fun i=>f (g i)) len fun i hi=>by
    rw[<-List.map_drop,<-List.map_take];exact(hg i hi).1
   exact this
  ·obtain⟨i,hi,rfl⟩:=List.mem_map.1 hx;exact(hg i (List.mem_range.1 hi)).2
end
end
end Go.Abs
namespace Go.Proofs.YtlginbmjiecglaaGreatDoor
section
open Go Go.Abs Go.ChangeShapes Go.WideShapes Go.ChangeAt Go.RowKit
set_option maxRecDepth 100000
theorem Tryz.b2H:ownKnob Tryz.prog.godebug=none:=by kernel_rfl
theorem Tryz.j5Z:laidOutB Tryz.prog=true:=by kernel_rfl
theorem j84:Tryz.prog.globals.size<(begin Tryz.prog (fun _ _=>0) default).world.heap.size:=of_decide_eq_true (by kernel_rfl)
abbrev j1I : List (String × DataW Unit) := [("bursar/bursarhand.coins", Rows.laid_bursar_bursarhand_coins), ("bursar/bursarlaw19.coins", Rows.laid_bursar_bursarlaw19_coins)]
theorem j8z : Tryz.prog.globalNamed "bursar/bursarhand.coins" = some 1 := by kernel_rfl
theorem b0q:(Tryz.prog.globals[1]?).map (·.type)=some 79:=by kernel_rfl
theorem j1o : Tryz.prog.globalNamed "bursar/bursarlaw19.coins" = some 0 := by kernel_rfl
theorem a3J:(Tryz.prog.globals[0]?).map (·.type)=some 70:=by kernel_rfl
theorem j3s (os:Os) (args:Array Value):laidMetH Tryz.prog j1I ((World.doorLaid Tryz.prog 400 os).forCall (fun _ _=>0) ⟨#[],args,[]⟩).memory:=
 laidMetH_of_parts3 (fuel:=8) (laidMet_of_run' 8 (by kernel_rfl) (by kernel_rfl)) (by kernel_rfl) (by kernel_rfl)
theorem j3i {W:World} (h:laidMetH Tryz.prog j1I W):(∃ro,(z0A W).get 1=some (.cells z6S ro))/\∃ro,(z0A W).get 0=some (.cells z6V ro):=by
 rw[MakeChecks.laidMetH_plain _ _ _ (by kernel_rfl)]at h;obtain⟨ps,⟨g0,t0,cs0,f0,p0,q0,hg0,ht0,hv0,hd0,⟨g1,t1,cs1,f1,p1,q1,hg1,ht1,hv1,hd1,_,_⟩,_⟩,_,_⟩:=h;obtain rfl:=xsj (j8z.symm.trans hg0);obtain rfl:=xsj (b0q.symm.trans ht0);obtain rfl:=xsj (j1o.symm.trans hg1);obtain rfl:=xsj (a3J.symm.trans ht1);have e:=z1L (n:=3) (e:=9) (ss:=[j1X,j1Y,j1Z]) hd0 (by kernel_rfl) (by kernel_rfl) (by kernel_rfl) (by kernel_rfl)
 have g:=j23 j8z hv0;rw[e]at g;have e':=z1L (n:=4) (e:=9) (ss:=[j1X,j1Y,j1Z,[101,117,114]]) hd1 (by kernel_rfl) (by kernel_rfl) (by kernel_rfl) (by kernel_rfl);have g':=j23 j1o hv1;rw[e']at g';exact⟨⟨true,g⟩,⟨true,g'⟩⟩
theorem j29 {W:World} {H:Type} {enc:TypeId×Value->H} {v:Value} {base:Nat} {d:DataW H} {p:List MemPlace} (h:Value.okWide Tryz.prog W .any base 22 v) (hr:DataW.Trod enc Tryz.prog W 0 (fun _=>true) true 22 v d p) :
  ∃l:List (Int×Int×Int×Int),z2t 4 (z0A W) (z2F W v) (l.map j8T)/\∀a∈l,i64 a.2.2.2:=by
 have hu:Tryz.prog.underlying 22=some (.slice 77):=by kernel_rfl
 have hi:Tryz.prog.underlying 3=some (.int .i64):=by kernel_rfl
 refine j3a (f:=j8T) (Q:=fun a=>i64 a.2.2.2) (n:=4) (by omega) hu (by kernel_rfl) h hr ?_ (fun a=>⟨rfl,rfl⟩)
 intro m cs y hl ht;have hst:∃fs,Tryz.prog.underlying 77=some (.struct fs)/\∀k,k<4->∃g∈fs.toList,g.offset=k/\g.type=3:=by
  refine⟨_,rfl,?_⟩;intro k hk;have:k=0\/k=1\/k=2\/k=3:=by omega
  rcases this with rfl|rfl|rfl|rfl
  ·exact⟨_,xmc,rfl,rfl⟩
  ·exact⟨_,List.mem_cons_of_mem _ xmc,rfl,rfl⟩
  ·exact⟨_,List.mem_cons_of_mem _ (List.mem_cons_of_mem _ xmc),rfl,rfl⟩
  ·exact⟨_,List.mem_cons_of_mem _ (List.mem_cons_of_mem _ (List.mem_cons_of_mem _ xmc)),rfl,rfl⟩
 obtain⟨fs,hfs,hfl⟩:=hst;obtain⟨m',_,hel⟩:=trod_struct hfs ht;have hc1:Tryz.prog.cellsOf 3=1:=by kernel_rfl
 have fld:∀k,k<4->∃n,cs[k]? = some (.int .i64 n)/\i64 n:=fun k hk=>by
  obtain⟨g,hg,h1,h2⟩:=hfl k hk;obtain⟨z,hz⟩:=hel g hg;rw[h1,h2,hc1,List.drop_eq_getElem_cons (show k<cs.length by omega),List.take_succ_cons,List.take_zero]at hz;obtain⟨n,e1,e2,e3⟩:=trod_int hi hz;have e4:IntKind.i64.min=-9223372036854775808:=by decide
  have e5:IntKind.i64.max=9223372036854775807:=by decide
  exact⟨n,by rw[xgq (by omega),e1],by unfold i64;omega⟩
 obtain⟨n0,e0,_⟩:=fld 0 (by omega);obtain⟨n1,e1,_⟩:=fld 1 (by omega);obtain⟨n2,e2,_⟩:=fld 2 (by omega);obtain⟨n3,e3,h3⟩:=fld 3 (by omega)
 match cs,hl,e0,e1,e2,e3 with
 |[a,b,c,d],_,e0,e1,e2,e3=>
  simp only[ge,xoi]at e0 e1 e2 e3;subst e0 e1 e2 e3;exact⟨(n0,n1,n2,n3),rfl,h3⟩
theorem one_cell {cs:List Value} {o:Nat} (h:o<cs.length):(cs.drop o).take 1=[cs[o]]:=by rw[List.drop_eq_getElem_cons h,List.take_succ_cons,List.take_zero]
instance:Inhabited q2i:=⟨⟨0,0,0,[],[],⟨0,0⟩,0,0,false,false⟩⟩
theorem z8y {W:World} {H:Type} {enc:TypeId×Value->H} {v:Value} {base:Nat} {d:DataW H} {p:List MemPlace} (h:Value.okWide Tryz.prog W .any base 58 v) (hr:DataW.Trod enc Tryz.prog W 0 (fun _=>true) true 58 v d p)
  (hB:∀k,k∈d.weights Tryz.prog 58->k<=140737488355328):∃l:List q2i,z2t 11 (z0A W) (z2F W v) (l.map (·.cells))/\∀a∈l,q2i.ok a:=by
 have hu:Tryz.prog.underlying 58=some (.slice 65):=by kernel_rfl
 have i64':Tryz.prog.underlying 3=some (.int .i64):=by kernel_rfl
 have u64':Tryz.prog.underlying 26=some (.int .u64):=by kernel_rfl
 have str':Tryz.prog.underlying 9=some .string:=by kernel_rfl
 have bool':Tryz.prog.underlying 4=some .bool:=by kernel_rfl
 refine z8z (f:=q2i.cells) (Q:=q2i.ok) (n:=11) (B:=140737488355328) (by omega) hu (by kernel_rfl) h hr hB ?_ (fun a=>⟨rfl,rfl⟩)
 intro m cs y hl ht hy;have hst:∃fs,Tryz.prog.underlying 65=some (.struct fs)/\(∃g∈fs.toList,g.offset=0/\g.type=3)/\(∃g∈fs.toList,g.offset=1/\g.type=26)/\(∃g∈fs.toList,g.offset=2/\g.type=26)/\(∃g∈fs.toList,g.offset=3/\g.type=9)/\
   (∃g∈fs.toList,g.offset=4/\g.type=9)/\(∃g∈fs.toList,g.offset=5/\g.type=45)/\(∃g∈fs.toList,g.offset=8/\g.type=3)/\(∃g∈fs.toList,g.offset=9/\g.type=4)/\(∃g∈fs.toList,g.offset=10/\g.type=4):=by
  refine⟨_,rfl,⟨_,xmc,rfl,rfl⟩,⟨_,.tail _ xmc,rfl,rfl⟩,⟨_,.tail _ (.tail _ xmc),rfl,rfl⟩,⟨_,.tail _ (.tail _ (.tail _ xmc)),rfl,rfl⟩,⟨_,.tail _ (.tail _ (.tail _ (.tail _ xmc))),rfl,rfl⟩,
   ⟨_,.tail _ (.tail _ (.tail _ (.tail _ (.tail _ xmc)))),rfl,rfl⟩,⟨_,.tail _ (.tail _ (.tail _ (.tail _ (.tail _ (.tail _ xmc))))),rfl,rfl⟩,⟨_,.tail _ (.tail _ (.tail _ (.tail _ (.tail _ (.tail _ (.tail _ xmc)))))),rfl,rfl⟩,
   ⟨_,.tail _ (.tail _ (.tail _ (.tail _ (.tail _ (.tail _ (.tail _ (.tail _ xmc))))))),rfl,rfl⟩⟩
 obtain⟨fs,hfs,q0,q1,q2,q3,q4,q5,q8,q9,q10⟩:=hst;obtain⟨m',_,hel⟩:=q4f hfs ht;have c3:Tryz.prog.cellsOf 3=1:=by kernel_rfl
 have c26:Tryz.prog.cellsOf 26=1:=by kernel_rfl
 have c9:Tryz.prog.cellsOf 9=1:=by kernel_rfl
 have c4:Tryz.prog.cellsOf 4=1:=by kernel_rfl
 have c45:Tryz.prog.cellsOf 45=3:=by kernel_rfl
 have e1:IntKind.i64.min=-9223372036854775808:=by decide
 have e2:IntKind.i64.max=9223372036854775807:=by decide
 have e3:IntKind.u64.min=0:=by decide
 have e4:IntKind.u64.max=18446744073709551615:=by decide
 have fI:∀o,o<11->(∃g∈fs.toList,g.offset=o/\g.type=3)->∃n,cs[o]? = some (.int .i64 n)/\-9223372036854775808<=n/\n<9223372036854775808:=fun o ho ⟨g,hg,h1,h2⟩=>by
  obtain⟨z,hz,_⟩:=hel g hg;rw[h1,h2,c3,one_cell (by omega)]at hz;obtain⟨n,r1,r2,r3⟩:=trod_int i64' hz;exact⟨n,by rw[xgq (by omega),r1],by omega,by omega⟩
 have fU:∀o,o<11->(∃g∈fs.toList,g.offset=o/\g.type=26)->∃n,cs[o]? = some (.int .u64 n)/\0<=n/\n<18446744073709551616:=fun o ho ⟨g,hg,h1,h2⟩=>by
  obtain⟨z,hz,_⟩:=hel g hg;rw[h1,h2,c26,one_cell (by omega)]at hz;obtain⟨n,r1,r2,r3⟩:=trod_int u64' hz;exact⟨n,by rw[xgq (by omega),r1],by omega,by omega⟩
 have fS:∀o,o<11->(∃g∈fs.toList,g.offset=o/\g.type=9)->∃n:ByteArray,cs[o]? = some (.string n)/\n.data.toList.length<=140737488355328:=fun o ho ⟨g,hg,h1,h2⟩=>by
  obtain⟨z,hz,hw⟩:=hel g hg;rw[h2]at hw;rw[h1,h2,c9,one_cell (by omega)]at hz;obtain⟨n,r1,r2⟩:=trod_string str' hz;exact⟨n,by rw[xgq (by omega),r1],hy _ (hw _ r2)⟩
 have fB:∀o,o<11->(∃g∈fs.toList,g.offset=o/\g.type=4)->∃n,cs[o]? = some (.bool n):=fun o ho ⟨g,hg,h1,h2⟩=>by
  obtain⟨z,hz,_⟩:=hel g hg;rw[h1,h2,c4,one_cell (by omega)]at hz;obtain⟨n,r1⟩:=trod_bool bool' hz;exact⟨n,by rw[xgq (by omega),r1]⟩
 have fD:∃hi lo sc,cs[5]? = some (.int .i64 hi)/\cs[6]? = some (.int .u64 lo)/\cs[7]? = some (.int .i64 sc)/\(-9223372036854775808<=hi/\hi<9223372036854775808)/\0<=lo/\lo<18446744073709551616:=by
  obtain⟨g,hg,h1,h2⟩:=q5;obtain⟨z,hz,_⟩:=hel g hg;rw[h1,h2,c45]at hz;have hsd:∃gs,Tryz.prog.underlying 45=some (.struct gs)/\(∃g∈gs.toList,g.offset=0/\g.type=43)/\(∃g∈gs.toList,g.offset=2/\g.type=3):=⟨_,rfl,⟨_,xmc,rfl,rfl⟩,⟨_,.tail _ xmc,rfl,rfl⟩⟩;obtain⟨gs,hgs,⟨w0,k0,k1,k2⟩,⟨w1,k3,k4,k5⟩⟩:=hsd;obtain⟨m2,_,hel2⟩:=q4f hgs hz;obtain⟨z1,hz1,_⟩:=hel2 w1 k3;obtain⟨z0,hz0,_⟩:=hel2 w0 k0;have c43:Tryz.prog.cellsOf 43=2:=by kernel_rfl
  rw[k4,k5,c3]at hz1;rw[k1,k2,c43]at hz0;have hsw:∃gs,Tryz.prog.underlying 43=some (.struct gs)/\(∃g∈gs.toList,g.offset=0/\Tryz.prog.underlying g.type=some (.int .i64)/\Tryz.prog.cellsOf g.type=1)/\(∃g∈gs.toList,g.offset=1/\Tryz.prog.underlying g.type=some (.int .u64)/\Tryz.prog.cellsOf g.type=1):=⟨_,rfl,⟨_,xmc,rfl,rfl,rfl⟩,⟨_,.tail _ xmc,rfl,rfl,rfl⟩⟩;obtain⟨ws,hws,⟨x0,j0,j1,j2,j3⟩,⟨x1,j4,j5,j6,j7⟩⟩:=hsw
  obtain⟨m3,_,hel3⟩:=q4f hws hz0;obtain⟨y0,hy0,_⟩:=hel3 x0 j0;obtain⟨y1,hy1,_⟩:=hel3 x1 j4;rw[j1,j3]at hy0;rw[j5,j7]at hy1
  match cs,hl,hz1,hy0,hy1 with
  |[_,_,_,_,_,f,g,h,_,_,_],_,hz1,hy0,hy1=>
   obtain⟨n0,r0,s0,s1⟩:=trod_int j2 (V:=f) hy0;obtain⟨n1,r1,s2,s3⟩:=trod_int j6 (V:=g) hy1;obtain⟨n2,r2,_,_⟩:=trod_int i64' (V:=h) hz1;exact⟨n0,n1,n2,by rw[r0];rfl,by rw[r1];rfl,by rw[r2];rfl,by omega,by omega,by omega⟩
 obtain⟨n0,a0,b0⟩:=fI 0 (by omega) q0;obtain⟨n1,a1,b1⟩:=fU 1 (by omega) q1;obtain⟨n2,a2,b2⟩:=fU 2 (by omega) q2;obtain⟨n3,a3,b3⟩:=fS 3 (by omega) q3;obtain⟨n4,a4,b4⟩:=fS 4 (by omega) q4;obtain⟨n5,n6,n7,a5,a6,a7,b5,b6⟩:=fD;obtain⟨n8,a8,b8⟩:=fI 8 (by omega) q8;obtain⟨n9,a9⟩:=fB 9 (by omega) q9;obtain⟨n10,a10⟩:=fB 10 (by omega) q10;refine⟨⟨n0,n1,n2,n3.data.toList,n4.data.toList,⟨n5,n6⟩,n7,n8,n9,n10⟩,?_,⟨b0,b1,b2,b3,b4,?_,b8⟩⟩
 ·clear fI fU fS fB hel ht
  match cs,hl,a0,a1,a2,a3,a4,a5,a6,a7,a8,a9,a10 with
  |[_,_,_,_,_,_,_,_,_,_,_],_,a0,a1,a2,a3,a4,a5,a6,a7,a8,a9,a10=>
   simp only[ge,xoi]at a0 a1 a2 a3 a4 a5 a6 a7 a8 a9 a10;subst a0 a1 a2 a3 a4 a5 a6 a7 a8 a9 a10;rfl
 ·unfold Wd.ok;simp only;omega
set_option maxHeartbeats 2000000 in
theorem q5L (os:Os) (started:os.Started) (H:Type) (enc:TypeId×Value->H) :
  ReturnsInHanded {} Tryz.checked os 5 .any (fun w args=>(Rows.ledgerPlaysSpec.pre enc Tryz.prog Tryz.f5 [] false w args/\laidMetH Tryz.prog j1I w)/\sizedMet enc Tryz.prog Tryz.f5 (OpenSpec.ofChange Rows.ledgerPlaysSpec) false w args)
   (Rows.ledgerPlaysSpec.post enc Tryz.prog Tryz.f5 false true false false):=by
 refine q6b (C:=Tryz.checked) (X:=fun w _=>laidMetH Tryz.prog j1I w) (fun _ _ _ hh h=>h.of_heap hh) Tryz.b2H started (by kernel_rfl) Tryz.func5
  (ChangeSpec.witness_shaped (enc:=enc) (C:=Tryz.checked) (os:=os) (X:=fun w _=>laidMetH Tryz.prog j1I w) false (World.doorLaid Tryz.prog 400 os) #[.int .i64 0,.slice none 0 0,.slice none 0 0] 8 rfl (World.shaped_of_RefB (by kernel_rfl) (by kernel_rfl)) (by kernel_rfl) (by kernel_rfl) (by kernel_rfl) (j3s os _)) ?_
 intro W base args ds gs before hval0 hW _ hwt hL hsh _;have hW':=hW;obtain⟨p,q,hA0,hV,rfl,hfz,hnd⟩:=hW;have hA:DataW.TrodAll enc Tryz.prog W 0 (fun _=>true) true Tryz.f5.params.toList args.toList ds p:=hA0
 rw[Tryz.params5]at hA hwt;obtain⟨v1,vs1,d1,ds1,p1,q1,ha1,rfl,hr1,hA1⟩:=q4Z hA;obtain⟨v2,vs2,d2,ds2,p2,q2,rfl,rfl,hr2,hA2⟩:=q4Z hA1;obtain⟨v3,vs3,d3,ds3,p3,q3,rfl,rfl,hr3,hA3⟩:=q4Z hA2;obtain⟨rfl,rfl⟩:=z6J hA3;obtain⟨rfl,rfl⟩:=trodVars_none hV;have hargs:args=#[v1,v2,v3]:=by rw[<-Array.toArray_toList (xs:=args),ha1]
 subst hargs;obtain⟨most,rfl,hx1,hx2⟩:=j81 (W:=W) (k:=.i64) (P:=Tryz.prog) (t:=3) (by kernel_rfl) (hval0 0 3 v1 (by kernel_rfl) rfl);obtain⟨acts,hr,hN⟩:=j29 (hval0 1 22 v2 (by kernel_rfl) rfl) hr2;obtain⟨ts,hrt,hok⟩:=z8y (hval0 2 58 v3 (by kernel_rfl) rfl) hr3 (fun k hk=>by
  have:=List.all_eq_true.1 hwt k (by simp only[DataW.weightsEach,List.cons_append,List.nil_append,xma];exact .inr (.inr (.inl hk)));have h2:k<=reachBytes:=by simpa using this
  exact xnt0 h2 (by unfold reachBytes;omega))
 obtain⟨hc1,hc2⟩:=j3i hL;obtain⟨m',hrun⟩:=j1Q (z0A W) hr hN hrt hok hc1 hc2 most;refine(j1J (E:=E30) a4q (f:=5) Tryz.func5 (by kernel_rfl) (by decide +kernel) (z3U hsh j84) (args:=[.int .i64 most,v2,v3]) hrun).mono fun e W' ⟨he,hb⟩=>?_
 subst he;exact⟨_,rfl,j50 (P:=Tryz.prog) (tb:=4) Tryz.j5Z (by decide +kernel) (by kernel_rfl) (by kernel_rfl) rfl hW' rfl hb⟩
theorem q7W:Rows.LedgerPlaysSaid:=
 OpenClaim.holds_of_wide 5 Tryz.f5 rfl rfl rfl rfl rfl rfl rfl ⟨rfl,rfl,rfl,rfl,rfl⟩ rfl rfl rfl rfl rfl (by kernel_rfl) Tryz.func5 (by kernel_rfl)
  (of_decide_eq_true (by kernel_rfl)) (by unfold Func.isWrapper;first|(rw[if_pos (by decide +kernel)];kernel_rfl)|(rw[if_neg (by decide +kernel)];exact⟨rfl,rfl⟩))
  (fun os started H enc _=>q5L os started H enc)
theorem ledgerPlays_holds:Rows.LedgerPlaysCardSaid:=
 Claim7.holds_tied_plain_at .later [] [.data,.data] true _ false
  q7W (fun _ h=>by cases h) (by kernel_rfl) (fun _ h=>by cases h) ledgerPlays_row_tie rfl ⟨rfl,rfl⟩ (by kernel_rfl) rfl
  (fun f fn hf hfn=>by
   obtain rfl : f = 5 := xsj ((show Tryz.prog.funcNamed "bursar/bursarlaw19.LedgerPlays" = some 5 by kernel_rfl).symm.trans hf) |>.symm
   obtain rfl:fn=Tryz.f5:=(xsj (Tryz.func5.symm.trans hfn)).symm;exact⟨by kernel_rfl,fun j t ht=>by
    rw[Tryz.params5]at ht;have hm:t∈[3,22,58]:=by simpa using Array.mem_of_getElem? ht
    have hall:([3,22,58].all fun u=>!Tryz.prog.wantsStandIn u)=true:=by kernel_rfl
    exact(show Tryz.prog.wantsStandIn t=false by simpa using List.all_eq_true.1 hall t hm)⟩)
  (by kernel_rfl)
#print axioms ledgerPlays_holds
end
end Go.Proofs.YtlginbmjiecglaaGreatDoor
