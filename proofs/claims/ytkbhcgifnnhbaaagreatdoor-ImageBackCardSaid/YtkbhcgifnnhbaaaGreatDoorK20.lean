/- Texts of one claim, put together. -/
import Derived.Test.YtkbhcgifnnhbaaaGreatDoorK19
namespace Go.Proofs.YtkbhcgifnnhbaaaGreatDoor
set_option maxRecDepth 4000
open Go Go.Abs
section
section
variable {m:Mem} {b:Nat} {st:LSt} {F:List Nat}
theorem z5P (h:q0I m b st F) (w:LWf st) (id:Int) {x:Wd} (hx:x.ok) (s:Int) :
  ∃m',run E22 (.fn 69) [.ptr (some ⟨b,0⟩),.int .u64 id,.agg (q0O x s)] m=some (.int .i64 (q3R st id x s).1,m')/\q0I m' b (q3R st id x s).2 F/\Fr m m' F:=by
 have ga:=z7k (H:=H22) rfl h (by have:=w.la;omega) id;have gpp:=fun k=>z2w (H:=H22) rfl h (by have:=w.lp;omega) k
 have hF:=h.lt;obtain⟨sp,sq,sa,rp,rq,ra,h1,h2,h3,h4,h5⟩:=h.ex;have hb:=Mem.q0u h1;have a3:∀i:Nat,ld1 m (.ptr (some ⟨b,i⟩))=[sp,sq,sa,.int .u64 st.latest,.int .i64 st.most][i]?:=fun i=>q0e h1
 have done:∀M,Fr m M []->∀v:AV,∃m',some (v,M)=some (v,m')/\q0I m' b st F/\Fr m m' F:=fun M hM v=>⟨M,rfl,h.q0m hM,hM.any F⟩
 unfold q3R;rcases LSt.q1W w id with ⟨e,hn⟩|⟨a,p,e,g1,g2,hid,hka,hpn,hkp,ma,mp⟩
 ·have hk:q1u q0F id (st.q0s.map (·.id))=false:=by
   cases hk:q1u q0F id (st.q0s.map (·.id)) with
   |false=>rfl
   |true=>obtain⟨a,a1,_⟩:=LSt.q1Q hk;rw[hn]at a1;cases a1
  rw[z5I w hk]at ga;rw[e];simp only[ne_eq,show ¬(40:Int)=0 by omega,xCu,xAd,q0O];simp (maxDischargeDepth:=20) only [z3N (H:=H22) rfl,F69,p2,q00,q0b,q0f,AV.one,AV.cells,lcl,ga,frl,Fr.refl,dt (show (-1:Int)<0 by omega)];exact done _ ((Fr.refl m).lay _) _
 ·rw[z7u w hka]at ga;rw[e];obtain⟨a',q1,q2,q3,q4⟩:=LSt.q1Q hka;rw[g1]at q1;cases q1;have hlt:st.iA id<st.q0s.length:=(xgi.1 q3).1;obtain⟨bb,hbb,x1,x2,x3,x4⟩:=h4.fld (i:=st.iA id) (by rw[xlm];exact hlt);have hB:bb<m.next:=by subst hbb;exact h4.lt
  rw[xlm]at x1 x2;subst x1;have q5:st.q0s[st.iA id]? = some a:=q3;have ha:st.q0s[st.iA id]=a:=by have q6:=q5;rw[xgq hlt]at q6;simpa using q6
  have x5:=x3 1 (by omega);have x6:=x4 2 2 (by omega);rw[xgm,ha]at x5 x6;have hkp':=hkp;rw[hpn]at hkp;have gp:=gpp a.q1U;rw[z2v w hkp]at gp;obtain⟨p',p1,p2,p3,p4⟩:=LSt.q2c hkp;rw[g2]at p1;cases p1;have hlt2:st.iP a.q1U<st.q0d.length:=(xgi.1 p3).1;obtain⟨bc,hbc,y1,y2,y3,y4⟩:=h2.fld (i:=st.iP a.q1U) (by rw[xlm];exact hlt2);have hC:bc<m.next:=by subst hbc;exact h2.lt
  rw[xlm]at y1 y2;subst y1;have p5:st.q0d[st.iP a.q1U]? = some p:=p3;have hp:st.q0d[st.iP a.q1U]=p:=by have p6:=p5;rw[xgq hlt2]at p6;simpa using p6
  have y6:=y4 2 2 (by omega);rw[xgm,hp]at y6;simp only[ge,q1v.cells,q0v.cells,xBh,xAp,xBk,xBp]at x5 x6 y6;have ft:=a4l (H:=H22) rfl h w g2 hx s;obtain⟨fe,hfe⟩:∃fe,fe=q3n p x s:=⟨_,rfl⟩;simp only[<-hfe,q0O,ne_eq,xAq,xAh]at ft⊢;by_cases f0:fe=0
  ·subst f0;rw[xAa (by simp)];have po:=fun m=>z2r (H:=H22) rfl (w.oka a ma).1 hx m
   have hsl:=a0p (a.bal.val-x.val);simp only[Wd.cells]at po;have xpos:0<x.val:=by
    have h1:=hfe;unfold q3n at h1;split at h1
    ·omega
    ·split at h1<;>omega
   by_cases hpr:a.bal.val<x.val
   ·rw[xAb hpr];rw[dt (show a.bal.val-x.val<0 by omega)]at hsl;simp (maxDischargeDepth:=20) only [z3N (H:=H22) rfl,F69,q00,q0b,q0f,AV.one,AV.cells,lcl,ga,frl,Fr.refl,df (show ¬((st.iA id:Nat):Int)<0 by omega)];simp (maxDischargeDepth:=20) only [q8g (H:=H22),j0v,p1,q1,nnA,q0b,Nat.reduceAdd,q0f,Nat.reduceLeDiff,lcl,q1J hb,a3,xBv,x2,q1J hB,x5,ft,frl,Fr.refl,xAn,xbt]
    simp (maxDischargeDepth:=20) only [z1J (H:=H22),j3w,p1,q1,nnA,q0b,Nat.reduceAdd,q0f,Nat.reduceLeDiff,lcl,q1J hb,a3,xBv,x2,q1J hB,x5,x6,gp,frl,Fr.refl,po,hsl];exact done _ ((Fr.refl m).lay _) _
   ·rw[xAa hpr];rw[df (show ¬a.bal.val-x.val<0 by omega)]at hsl;have su:=fun m=>q67 (H:=H22) rfl (w.oka a ma).1 hx m
    have ad:=fun m=>q62 (H:=H22) rfl (w.okp p mp).2.2.1 hx m
    have e1:q0Q (a.bal.val-x.val)=true:=by
     have h1:=z8F (w.oka a ma).1;have h2:=Wd.q8x (w.oka a ma).1;unfold q0Q at h2⊢;simp only[xAc,xAj]at h2⊢;omega
    simp only[Wd.cells]at ad su;have c2:=q4G (n:=p.out.val+x.val);rw[q1O e1]at su;unfold q45;rw[e1,xAs];obtain⟨nx,hnx⟩:∃nx,nx=Wd.of (a.bal.val-x.val):=⟨_,rfl⟩;rw[<-hnx]at su⊢;cases e2:q0Q (p.out.val+x.val) with
    |false=>
     rw[e2]at c2;rw[xAa (by simp)];simp (maxDischargeDepth:=20) only [z3N (H:=H22) rfl,F69,q00,q0b,q0f,AV.one,AV.cells,lcl,ga,frl,Fr.refl,df (show ¬((st.iA id:Nat):Int)<0 by omega)];simp (maxDischargeDepth:=20) only [q8g (H:=H22),j0v,p1,q1,nnA,q0b,Nat.reduceAdd,q0f,Nat.reduceLeDiff,lcl,q1J hb,a3,xBv,x2,q1J hB,x5,ft,frl,Fr.refl,xAn,xbt]
     simp (maxDischargeDepth:=20) only [z1J (H:=H22),j3w,p1,q1,nnA,q0b,Nat.reduceAdd,q0f,Nat.reduceLeDiff,lcl,q1J hb,a3,xBv,x2,q1J hB,x5,x6,gp,frl,Fr.refl,po,hsl];simp (maxDischargeDepth:=20) only [z9q (H:=H22),a05,p1,q1,pB,nnA,q0q,q0b,Nat.reduceAdd,q0f,AV.one,over,AV.cells,Nat.reduceLeDiff,lcl,q1J hb,z8L hb,a3,xBv,x2,q1J hB,x6,y2,q1J hC,z8L hC,y6,ad,su,c2,xbf]
     refine done _ ?_ _
     (repeat apply Fr.lays)
     exact Fr.refl _
    |true=>
     rw[xAb rfl];rw[q1O e2]at ad;obtain⟨ny,hny⟩:∃ny,ny=Wd.of (p.out.val+x.val):=⟨_,rfl⟩;rw[<-hny]at ad⊢;obtain⟨M3,hM3⟩:∃M3,M3=((m.lay (.cells (q0O x s) false)).lay (.cells nx.cells false)).lay (.cells ny.cells false):=⟨_,rfl⟩;have f3:Fr m M3 []:=by rw[hM3];(repeat apply Fr.lays);exact Fr.refl _
     have hb3:=f3.get h1 (by simp);have z1:M3.get (m.next+1)=some (.cells nx.cells false):=by rw[hM3];simp[Mem.q0J]
     have z2:M3.get (m.next+1+1)=some (.cells ny.cells false):=by rw[hM3];simp[Mem.q0J]
     obtain⟨bb',m4,s1,s2,s3,s4,s5,s6⟩:=(h.q0m f3).stA hb3 (a:=a) (by rw[hid];exact q5) nx;cases s1;have hb4:=s6.trans hb3;obtain⟨bc',m5,t1,t2,t3,t4,t5,t6⟩:=s3.stP hb4 (a:=p) (by rw[hpn];exact p5) ny;cases t1;rw[hid]at s2;have t2':stV m4 (.ptr (some ⟨bc,st.iP a.q1U*4+2⟩)) (.agg ny.cells) 2=some m5:=by rw[<-hpn];exact t2
     have n3:m.next<=M3.next:=f3.next
     have z4:=s4.get z2 (fun hc=>by have:=hF _ hc;omega)
     have a33:∀i:Nat,ld1 M3 (.ptr (some ⟨b,i⟩))=[.sl (some ⟨bc,0⟩) 4 st.q0d.length st.q0d.length false,sq,.sl (some ⟨bb,0⟩) 4 st.q0s.length st.q0s.length false,.int .u64 st.latest,.int .i64 st.most][i]?:=fun i=>q0e hb3
     have a34:∀i:Nat,ld1 m4 (.ptr (some ⟨b,i⟩))=[.sl (some ⟨bc,0⟩) 4 st.q0d.length st.q0d.length false,sq,.sl (some ⟨bb,0⟩) 4 st.q0s.length st.q0s.length false,.int .u64 st.latest,.int .i64 st.most][i]?:=fun i=>q0e hb4
     have l1:ldN M3 (.ptr (some ⟨m.next+1,0⟩)) 2=some (.agg nx.cells):=q0X z1 rfl
     have l2:ldN m4 (.ptr (some ⟨m.next+1+1,0⟩)) 2=some (.agg ny.cells):=q0X z4 rfl
     refine⟨m5,?_,t3,((f3.any F).step s4 (fun c hc=>.inl hc)).step t4 (fun c hc=>.inl hc)⟩
     simp only[q0O,Wd.cells]at hM3 l1 l2 s2 t2';simp (maxDischargeDepth:=20) only [z3N (H:=H22) rfl,F69,q00,q0b,q0f,AV.one,AV.cells,lcl,ga,frl,Fr.refl,df (show ¬((st.iA id:Nat):Int)<0 by omega)];simp (maxDischargeDepth:=20) only [q8g (H:=H22),j0v,p1,q1,nnA,q0b,Nat.reduceAdd,q0f,Nat.reduceLeDiff,lcl,q1J hb,a3,xBv,x2,q1J hB,x5,ft,frl,Fr.refl,xAn,xbt]
     simp (maxDischargeDepth:=20) only [z1J (H:=H22),j3w,p1,q1,nnA,q0b,Nat.reduceAdd,q0f,Nat.reduceLeDiff,lcl,q1J hb,a3,xBv,x2,q1J hB,x5,x6,gp,frl,Fr.refl,po,hsl];simp (maxDischargeDepth:=20) only [z9q (H:=H22),a05,p1,q1,pB,nnA,q0q,q0b,Nat.reduceAdd,q0f,AV.one,over,AV.cells,Nat.reduceLeDiff,lcl,q1J hb,z8L hb,a3,xBv,x2,q1J hB,x6,y2,q1J hC,z8L hC,y6,ad,su,xAn,xbt,<-hM3]
     simp only[a2I (H:=H22),a7C,p1,q1,nnA,q0f,a33,l1,xBv,xAd,x2,s2,a34,l2,y2,t2']
  ·rw[xAb f0];simp (maxDischargeDepth:=20) only [z3N (H:=H22) rfl,F69,q00,q0b,q0f,AV.one,AV.cells,lcl,ga,frl,Fr.refl,df (show ¬((st.iA id:Nat):Int)<0 by omega)];simp (maxDischargeDepth:=20) only [q8g (H:=H22),j0v,p1,q1,nnA,q0b,Nat.reduceAdd,q0f,Nat.reduceLeDiff,lcl,q1J hb,a3,xBv,x2,q1J hB,x5,ft,frl,Fr.refl,df f0,xbf]
   exact done _ ((Fr.refl m).lay _) _
end
end
section
section
variable {m:Mem} {b:Nat} {st:LSt} {F:List Nat}
theorem z9Y {rb:Option Nat} {sa:AV} (h4:q08 4 m sa (st.q0s.map (·.cells)) rb) (w:LWf st) {id:Int} {a:q1v} (g1:st.z0F id=some a) (hka:q1u q0F id (st.q0s.map (·.id))=true) :
  ∃bb,sa=.sl (some ⟨bb,0⟩) 4 st.q0s.length st.q0s.length false/\bb<m.next/\ixA 4 st.q0s.length ⟨bb,0⟩ ((st.iA id:Nat):Int)=some (.ptr (some ⟨bb,st.iA id*4⟩))/\ld1 m (.ptr (some ⟨bb,st.iA id*4+1⟩))=some (.str a.q1U)/\
   ldN m (.ptr (some ⟨bb,st.iA id*4+2⟩)) 2=some (.agg [.int .i64 a.bal.hi,.int .u64 a.bal.lo])/\st.q0s[st.iA id]? = some a:=by
 obtain⟨a',q1,q2,q3,q4⟩:=LSt.q1Q hka;rw[g1]at q1;cases q1;have hlt:st.iA id<st.q0s.length:=(xgi.1 q3).1;obtain⟨bb,hbb,x1,x2,x3,x4⟩:=h4.fld (i:=st.iA id) (by rw[xlm];exact hlt);have hB:bb<m.next:=by subst hbb;exact h4.lt
 rw[xlm]at x1 x2;have q5:st.q0s[st.iA id]? = some a:=q3;have ha:st.q0s[st.iA id]=a:=by have q6:=q5;rw[xgq hlt]at q6;simpa using q6
 have x5:=x3 1 (by omega);have x6:=x4 2 2 (by omega);rw[xgm,ha]at x5 x6;exact⟨bb,x1,hB,x2,x5,x6,q5⟩
theorem z5O (h:q0I m b st F) (w:LWf st) (i j:Int) {x:Wd} (hx:x.ok) (s:Int) :
  ∃m',run E22 (.fn 70) [.ptr (some ⟨b,0⟩),.int .u64 i,.int .u64 j,.agg (q0O x s)] m=some (.int .i64 (q3P st i j x s).1,m')/\q0I m' b (q3P st i j x s).2 F/\Fr m m' F:=by
 have gi:=z7k (H:=H22) rfl h (by have:=w.la;omega) i;have gj:=z7k (H:=H22) rfl h (by have:=w.la;omega) j;have hF:=h.lt;obtain⟨sp,sq,sa,rp,rq,ra,h1,h2,h3,h4,h5⟩:=h.ex;have hb:=Mem.q0u h1;have done:∀M,Fr m M []->∀v:AV,∃m',some (v,M)=some (v,m')/\q0I m' b st F/\Fr m m' F:=fun M hM v=>⟨M,rfl,h.q0m hM,hM.any F⟩
 have none_idx:∀id,st.z0F id=none->q52 (fun p:q1v=>decide (p.id=id)) st.q0s 0=-1:=by
  intro id hn;apply z5I w;cases hk:q1u q0F id (st.q0s.map (·.id)) with
  |false=>rfl
  |true=>obtain⟨a,a1,_⟩:=LSt.q1Q hk;rw[hn]at a1;cases a1
 have cm:=dt (show (-1:Int)<0 by omega);rw[z6b];rcases LSt.q1W w i with ⟨e,hn⟩|⟨a,p,e,g1,g2,hid,hka,hpn,hkp,ma,mp⟩
 ·rw[none_idx i hn]at gi;rw[e];simp only[ne_eq,show ¬(40:Int)=0 by omega,xCu,xAd,q0O];simp (maxDischargeDepth:=20) only [q7O (H:=H22) rfl,F70,p2,q00,q0b,ifV,q0f,AV.one,AV.cells,lcl,gi,gj,frl,Fr.refl,cm];exact done _ ((Fr.refl m).lay _) _
 ·rw[z7u w hka]at gi;have ci:=df (show ¬((st.iA i:Nat):Int)<0 by omega);rw[e];rcases LSt.q1W w j with ⟨e',hn⟩|⟨a',p',e',g1',g2',hid',hka',hpn',hkp',ma',mp'⟩
  ·rw[none_idx j hn]at gj;rw[e'];simp only[ne_eq,xAq,xAh,show ¬(40:Int)=0 by omega,xCu,xAd,q0O];simp (maxDischargeDepth:=20) only [q7O (H:=H22) rfl,F70,p2,q00,q0b,ifV,q0f,AV.one,AV.cells,lcl,gi,gj,frl,Fr.refl,ci,cm];exact done _ ((Fr.refl m).lay _) _
  ·rw[z7u w hka']at gj;have cj:=df (show ¬((st.iA j:Nat):Int)<0 by omega);rw[e'];obtain⟨bb,x1,hB,x2,x5,x6,q5⟩:=z9Y h4 w g1 hka;obtain⟨bb',y1,_,y2,y5,y6,q5'⟩:=z9Y h4 w g1' hka';subst x1;cases y1;have a3:∀i:Nat,ld1 m (.ptr (some ⟨b,i⟩))=[sp,sq,.sl (some ⟨bb,0⟩) 4 st.q0s.length st.q0s.length false,.int .u64 st.latest,.int .i64 st.most][i]?:=fun i=>q0e h1
   have hij:(i=j)=(((st.iA i:Nat):Int)=((st.iA j:Nat):Int)):=by
    apply propext;constructor
    ·rintro rfl;rfl
    ·intro he;have he':st.iA i=st.iA j:=by omega
     rw[he',q5']at q5;cases q5;rw[<-hid,<-hid']
   simp only[ne_eq,xAq,xAh,q0O];by_cases h6:i=j
   ·rw[xAb h6];have:=hij▸h6;simp (maxDischargeDepth:=20) only [q7O (H:=H22) rfl,F70,p2,q00,q0b,ifV,q0f,AV.one,AV.cells,lcl,gi,gj,frl,Fr.refl,ci,cj];simp only[q5F (H:=H22),z3b,p2,q0b,q0f,dt this];exact done _ ((Fr.refl m).lay _) _
   ·rw[xAa h6];have h7:¬((st.iA i:Nat):Int)=((st.iA j:Nat):Int):=by rw[<-hij];exact h6
    rw[hpn,hpn'];by_cases h8:a.q1U=a'.q1U
    ·rw[xAa (by simp[h8])];have ft:=a4l (H:=H22) rfl h w g2 hx s;have po:=fun m=>z2r (H:=H22) rfl (w.oka a ma).1 hx m
     have hsl:=a0p (a.bal.val-x.val);unfold trT;obtain⟨fe,hfe⟩:∃fe,fe=q3n p x s:=⟨_,rfl⟩;simp only[<-hfe,q0O,Wd.cells]at ft po⊢;by_cases f0:fe=0
     ·subst f0;rw[xAa (by simp)];have xpos:0<x.val:=by
       have h1:=hfe;unfold q3n at h1;split at h1
       ·omega
       ·split at h1<;>omega
      by_cases hpr:a.bal.val<x.val
      ·rw[xAb hpr];rw[dt (show a.bal.val-x.val<0 by omega)]at hsl;simp (maxDischargeDepth:=20) only [q7O (H:=H22) rfl,F70,p2,q00,q0b,ifV,q0f,AV.one,AV.cells,lcl,gi,gj,frl,Fr.refl,ci,cj];simp only[q5F (H:=H22),z3b,p2,q0b,q0f,df h7];simp (maxDischargeDepth:=20) only [q6K (H:=H22),z6o,p1,q1,p2,nnA,q0b,q0f,lcl,q1J hb,a3,xBv,x2,y2,q1J hB,x5,y5,dt h8,xbt]
       simp (maxDischargeDepth:=20) only [q8h (H:=H22),j0w,p1,q1,p2,nnA,q0b,Nat.reduceAdd,q0f,Nat.reduceLeDiff,lcl,q1J hb,a3,xBv,x2,q1J hB,x5,ft,frl,Fr.refl,xAn,xbt];simp (maxDischargeDepth:=20) only [z1K (H:=H22),j3x,p1,q1,p2,nnA,q0b,Nat.reduceAdd,q0f,Nat.reduceLeDiff,lcl,q1J hb,a3,xBv,x2,q1J hB,x6,po,hsl]
       exact done _ ((Fr.refl m).lay _) _
      ·rw[xAa hpr];rw[df (show ¬a.bal.val-x.val<0 by omega)]at hsl;have su:=fun m=>q67 (H:=H22) rfl (w.oka a ma).1 hx m
       have ad:=fun m=>q62 (H:=H22) rfl (w.oka a' ma').1 hx m
       have e1:q0Q (a.bal.val-x.val)=true:=by
        have h2:=Wd.q8x (w.oka a ma).1;unfold q0Q at h2⊢;simp only[xAc,xAj]at h2⊢;omega
       simp only[Wd.cells]at ad su;have c2:=q4G (n:=a'.bal.val+x.val);rw[q1O e1]at su;unfold q45;rw[e1,xAs];obtain⟨nx,hnx⟩:∃nx,nx=Wd.of (a.bal.val-x.val):=⟨_,rfl⟩;rw[<-hnx]at su⊢;cases e2:q0Q (a'.bal.val+x.val) with
       |false=>
        rw[e2]at c2;rw[xAa (by simp)];simp (maxDischargeDepth:=20) only [q7O (H:=H22) rfl,F70,p2,q00,q0b,ifV,q0f,AV.one,AV.cells,lcl,gi,gj,frl,Fr.refl,ci,cj];simp only[q5F (H:=H22),z3b,p2,q0b,q0f,df h7];simp (maxDischargeDepth:=20) only [q6K (H:=H22),z6o,p1,q1,p2,nnA,q0b,q0f,lcl,q1J hb,a3,xBv,x2,y2,q1J hB,x5,y5,dt h8,xbt]
        simp (maxDischargeDepth:=20) only [q8h (H:=H22),j0w,p1,q1,p2,nnA,q0b,Nat.reduceAdd,q0f,Nat.reduceLeDiff,lcl,q1J hb,a3,xBv,x2,q1J hB,x5,ft,frl,Fr.refl,xAn,xbt];simp (maxDischargeDepth:=20) only [z1K (H:=H22),j3x,p1,q1,p2,nnA,q0b,Nat.reduceAdd,q0f,Nat.reduceLeDiff,lcl,q1J hb,a3,xBv,x2,q1J hB,x6,po,hsl]
        simp (maxDischargeDepth:=20) only [z9r (H:=H22),a06,p1,q1,p2,pB,nnA,q0q,q0b,Nat.reduceAdd,q0f,AV.one,over,AV.cells,Nat.reduceLeDiff,lcl,q1J hb,z8L hb,a3,xBv,x2,y2,q1J hB,z8L hB,x6,y6,ad,su,c2,xbf];refine done _ ?_ _
        (repeat apply Fr.lays)
        exact Fr.refl _
       |true=>
        rw[xAb rfl];rw[q1O e2]at ad;obtain⟨ny,hny⟩:∃ny,ny=Wd.of (a'.bal.val+x.val):=⟨_,rfl⟩;rw[<-hny]at ad⊢;obtain⟨M3,hM3⟩:∃M3,M3=((m.lay (.cells (q0O x s) false)).lay (.cells nx.cells false)).lay (.cells ny.cells false):=⟨_,rfl⟩;have f3:Fr m M3 []:=by rw[hM3];(repeat apply Fr.lays);exact Fr.refl _
        have hb3:=f3.get h1 (by simp);have z1:M3.get (m.next+1)=some (.cells nx.cells false):=by rw[hM3];simp[Mem.q0J]
        have z2:M3.get (m.next+1+1)=some (.cells ny.cells false):=by rw[hM3];simp[Mem.q0J]
        obtain⟨b1,m4,s1,s2,s3,s4,s5,s6⟩:=(h.q0m f3).stA hb3 (a:=a) (by rw[hid];exact q5) nx;cases s1;have hb4:=s6.trans hb3;have ids:=LSt.q6Q (st:=st) (a:={a with bal:=nx}) (by show q1u q0F a.id _=true;rw[hid];exact hka)
        have hi2:(st.q2U {a with bal:=nx}).iA a'.id=st.iA j:=by unfold LSt.iA;rw[ids,hid']
        have hl2:(st.q2U {a with bal:=nx}).q0s.length=st.q0s.length:=List.length_set ..
        obtain⟨b2,m5,t1,t2,t3,t4,t5,t6⟩:=s3.stA hb4 (a:=a') (by
         rw[hi2];show (st.q0s.set (st.iA a.id) _)[st.iA j]? = some a';rw[hid,xFo (by omega)];exact q5') ny
        rw[hl2]at t1;cases t1;rw[hid]at s2;rw[hi2]at t2;have n3:m.next<=M3.next:=f3.next
        have z4:=s4.get z2 (fun hc=>by have:=hF _ hc;omega)
        have a33:∀i:Nat,ld1 M3 (.ptr (some ⟨b,i⟩))=[sp,sq,.sl (some ⟨bb,0⟩) 4 st.q0s.length st.q0s.length false,.int .u64 st.latest,.int .i64 st.most][i]?:=fun i=>q0e hb3
        have a34:∀i:Nat,ld1 m4 (.ptr (some ⟨b,i⟩))=[sp,sq,.sl (some ⟨bb,0⟩) 4 st.q0s.length st.q0s.length false,.int .u64 st.latest,.int .i64 st.most][i]?:=fun i=>q0e hb4
        have l1:ldN M3 (.ptr (some ⟨m.next+1,0⟩)) 2=some (.agg nx.cells):=q0X z1 rfl
        have l2:ldN m4 (.ptr (some ⟨m.next+1+1,0⟩)) 2=some (.agg ny.cells):=q0X z4 rfl
        refine⟨m5,?_,t3,((f3.any F).step s4 (fun c hc=>.inl hc)).step t4 (fun c hc=>.inl hc)⟩
        simp only[q0O,Wd.cells]at hM3 l1 l2 s2 t2;simp (maxDischargeDepth:=20) only [q7O (H:=H22) rfl,F70,p2,q00,q0b,ifV,q0f,AV.one,AV.cells,lcl,gi,gj,frl,Fr.refl,ci,cj];simp only[q5F (H:=H22),z3b,p2,q0b,q0f,df h7];simp (maxDischargeDepth:=20) only [q6K (H:=H22),z6o,p1,q1,p2,nnA,q0b,q0f,lcl,q1J hb,a3,xBv,x2,y2,q1J hB,x5,y5,dt h8,xbt]
        simp (maxDischargeDepth:=20) only [q8h (H:=H22),j0w,p1,q1,p2,nnA,q0b,Nat.reduceAdd,q0f,Nat.reduceLeDiff,lcl,q1J hb,a3,xBv,x2,q1J hB,x5,ft,frl,Fr.refl,xAn,xbt];simp (maxDischargeDepth:=20) only [z1K (H:=H22),j3x,p1,q1,p2,nnA,q0b,Nat.reduceAdd,q0f,Nat.reduceLeDiff,lcl,q1J hb,a3,xBv,x2,q1J hB,x6,po,hsl]
        simp (maxDischargeDepth:=20) only [z9r (H:=H22),a06,p1,q1,p2,pB,nnA,q0q,q0b,Nat.reduceAdd,q0f,AV.one,over,AV.cells,Nat.reduceLeDiff,lcl,q1J hb,z8L hb,a3,xBv,x2,y2,q1J hB,z8L hB,x6,y6,ad,su,xAn,xbt,<-hM3];simp only[a2J (H:=H22),a7D,p1,q1,p2,nnA,q0f,a33,l1,xBv,xAd,x2,s2,a34,l2,y2,t2]
     ·rw[xAb f0];simp (maxDischargeDepth:=20) only [q7O (H:=H22) rfl,F70,p2,q00,q0b,ifV,q0f,AV.one,AV.cells,lcl,gi,gj,frl,Fr.refl,ci,cj];simp only[q5F (H:=H22),z3b,p2,q0b,q0f,df h7];simp (maxDischargeDepth:=20) only [q6K (H:=H22),z6o,p1,q1,p2,nnA,q0b,q0f,lcl,q1J hb,a3,xBv,x2,y2,q1J hB,x5,y5,dt h8,xbt]
      simp (maxDischargeDepth:=20) only [q8h (H:=H22),j0w,p1,q1,p2,nnA,q0b,Nat.reduceAdd,q0f,Nat.reduceLeDiff,lcl,q1J hb,a3,xBv,x2,q1J hB,x5,ft,frl,Fr.refl,df f0,xbf];exact done _ ((Fr.refl m).lay _) _
    ·rw[xAb h8];simp (maxDischargeDepth:=20) only [q7O (H:=H22) rfl,F70,p2,q00,q0b,ifV,q0f,AV.one,AV.cells,lcl,gi,gj,frl,Fr.refl,ci,cj];simp only[q5F (H:=H22),z3b,p2,q0b,q0f,df h7];simp (maxDischargeDepth:=20) only [q6K (H:=H22),z6o,p1,q1,p2,nnA,q0b,q0f,lcl,q1J hb,a3,xBv,x2,y2,q1J hB,x5,y5,df h8,xbf]
     exact done _ ((Fr.refl m).lay _) _
end
end
section
theorem z0I {α:Type} {p q:α->Bool}:∀{l:List α} {i:Nat},(∀x∈l,p x=q x)->q52 p l i=q52 q l i
 |[],_,_=>rfl
 |x::l,i,h=>by
  unfold q52;rw[h x xmc,z0I fun y hy=>h y (xBa _ hy)]
section
variable {m:Mem} {b:Nat} {st:LSt} {F:List Nat}
theorem b42 (w:LWf st) {x y:List UInt8} (hx:(st.q4r x).isSome=true) (hy:(st.q4r y).isSome=true):q52 (fun p=>decide (p.x=x)&&decide (p.y=y)) st.pairs 0=if q1u q0g (x++y) (st.pairs.map (·.key))=true then ((st.iQ (x++y):Nat):Int) else -1:=by
 have lx:=q1G w hx;have e:q52 (fun p:q0D=>decide (p.x=x)&&decide (p.y=y)) st.pairs 0=q52 (fun p:q0D=>decide (p.key=x++y)) st.pairs 0:=by
  apply z0I;intro q hq;have l1:=q1G w (w.okq q hq).2.2.2.2.1;rw[<-Bool.decide_and];apply decide_eq_decide.mpr;unfold q0D.key;constructor
  ·rintro⟨h1,h2⟩;rw[h1,h2]
  ·intro h;exact List.append_inj h (by omega)
 rw[e,q5H (lt:=q0g) (fun p:q0D=>p.key) (x++y) q1h st.pairs 0 w.sq,xnz]
 rfl
end
end
section
theorem j9W {w v:Wd} (hw:w.ok) (hv:v.ok) (s t n:Int) (m:Mem):Res m (run E22 (.fn 151) [.agg (q0O w s),.agg (q0O v t),.int .i64 n] m) (z8X w s v t n):=by
 have dr:=fun m=>q5O (H:=H22) rfl w s m
 have rr:=fun m=>z97 (H:=H22) rfl hv t m
 unfold z8X;by_cases h:0<=s/\s<=18
 ·rw[dt h]at dr;by_cases hn:0<=n/\n<=18
  ·rw[xAb ⟨h,hn⟩];have cn0:=df (show ¬n<0 by omega);have cn1:=df (show ¬(18:Int)<n by omega);by_cases h2:0<w.val
   ·rw[xAb h2];have e1:¬w.hi<0:=by
     obtain⟨x1,x2,x3,x4⟩:=hw;unfold Wd.val at h2;omega
    have e2:(decide (w.hi=0)&&decide (w.lo=0))=false:=by
     rw[<-Bool.decide_and];apply df;rintro⟨y1,y2⟩
     unfold Wd.val at h2;omega
    by_cases h3:q4p v t=0
    ·rw[xAb h3];have hr:=z0Z h3;have dm:=fun m=>j1p (H:=H22) rfl hw hv h hr.1 hn m
     obtain⟨N,hN⟩:∃N,N=j9n w.val v.val (s+t-n):=⟨_,rfl⟩;rw[<-hN]at dm⊢;clear hN;unfold q42 at dm⊢;simp only[q0O]at dr rr;simp only[q59 (H:=H22) rfl,a0U,pB,q1,p1,p2,q0p,AV.cells,Nat.reduceAdd,Nat.reduceLeDiff,q00,q0b,ifV,unA,q0P,q0T,q0r,AV.one,over,lcl,q0O,dr,xbt,cn0,cn1];simp only[q6F (H:=H22),z0j,p1,q1,p2,q0p,AV.cells,Nat.reduceAdd,Nat.reduceLeDiff,q0b,ifV,q0P,q0T,q0r,AV.one,over,lcl,df e1,q3s,e2]
     simp only[z3Z (H:=H22),z7P,q1,p2,q0p,AV.cells,Nat.reduceAdd,Nat.reduceLeDiff,q0b,q0P,q0T,q0r,AV.one,over,lcl,rr,h3,xAn,xbt];simp only[q0O]at dm;cases hf:q0Q N with
     |true=>
      simp only[hf,xAd]at dm;simp only[z4a (H:=H22),z7Q,q1,p1,q0q,q0P,q0T,q0r,AV.one,over,AV.cells,Nat.reduceAdd,Nat.reduceLeDiff,lcl,dm];refine Res.eq ?_ rfl
      (repeat apply Fr.lays)
      exact Fr.refl _
     |false=>
      simp only[hf,xbq,xAh]at dm;simp only[z4a (H:=H22),z7Q,q1,p1,q0q,q0P,q0T,q0r,AV.one,over,AV.cells,Nat.reduceAdd,Nat.reduceLeDiff,lcl,dm,xbq];refine Res.eq ?_ rfl
      (repeat apply Fr.lays)
      exact Fr.refl _
    ·rw[xAa h3];simp only[q0O]at dr rr;simp only[q59 (H:=H22) rfl,a0U,pB,q1,p1,p2,q0p,AV.cells,Nat.reduceAdd,Nat.reduceLeDiff,q00,q0b,ifV,unA,q0P,q0T,q0r,AV.one,over,lcl,q0O,dr,xbt,cn0,cn1];simp only[q6F (H:=H22),z0j,p1,q1,p2,q0p,AV.cells,Nat.reduceAdd,Nat.reduceLeDiff,q0b,ifV,q0P,q0T,q0r,AV.one,over,lcl,df e1,q3s,e2];simp only[z3Z (H:=H22),z7P,q1,p2,q0p,AV.cells,Nat.reduceAdd,Nat.reduceLeDiff,q0b,q0P,q0T,q0r,AV.one,over,lcl,rr,df h3,xbf]
     refine Res.eq ?_ rfl
     (repeat apply Fr.lays)
     exact Fr.refl _
   ·rw[xAa h2];simp only[q0O]at dr;by_cases g1:w.hi<0
    ·simp only[q59 (H:=H22) rfl,a0U,pB,q1,p1,p2,q0p,AV.cells,Nat.reduceAdd,Nat.reduceLeDiff,q00,q0b,ifV,unA,q0P,q0T,q0r,AV.one,over,lcl,q0O,dr,xbt,cn0,cn1];simp only[q6F (H:=H22),z0j,p1,q1,p2,q0p,AV.cells,Nat.reduceAdd,Nat.reduceLeDiff,q0b,ifV,q0P,q0T,q0r,AV.one,over,lcl,dt g1];refine Res.eq ?_ rfl
     (repeat apply Fr.lays)
     exact Fr.refl _
    ·have g2:w.hi=0/\w.lo=0:=by
      obtain⟨x1,x2,x3,x4⟩:=hw;unfold Wd.val at h2;omega
     simp only[q59 (H:=H22) rfl,a0U,pB,q1,p1,p2,q0p,AV.cells,Nat.reduceAdd,Nat.reduceLeDiff,q00,q0b,ifV,unA,q0P,q0T,q0r,AV.one,over,lcl,q0O,dr,xbt,cn0,cn1];simp only[q6F (H:=H22),z0j,p1,q1,p2,q0p,AV.cells,Nat.reduceAdd,Nat.reduceLeDiff,q0b,ifV,q0P,q0T,q0r,AV.one,over,lcl,df g1,q3s,dt g2.1,dt g2.2];refine Res.eq ?_ rfl
     (repeat apply Fr.lays)
     exact Fr.refl _
  ·rw[xAa (by omega)];simp only[q0O]at dr;by_cases h4:n<0
   ·simp only[q59 (H:=H22) rfl,a0U,pB,q1,p1,p2,q0p,AV.cells,Nat.reduceAdd,Nat.reduceLeDiff,q00,q0b,ifV,unA,q0P,q0T,q0r,AV.one,over,lcl,q0O,dr,xbt,dt h4];refine Res.eq ?_ rfl
    (repeat apply Fr.lays)
    exact Fr.refl _
   ·simp only[q59 (H:=H22) rfl,a0U,pB,q1,p1,p2,q0p,AV.cells,Nat.reduceAdd,Nat.reduceLeDiff,q00,q0b,ifV,unA,q0P,q0T,q0r,AV.one,over,lcl,q0O,dr,xbt,df h4,dt (show (18:Int)<n by omega)];refine Res.eq ?_ rfl
    (repeat apply Fr.lays)
    exact Fr.refl _
 ·rw[xAa (by omega)];rw[df h]at dr;simp only[q0O]at dr;simp only[q59 (H:=H22) rfl,a0U,pB,q1,p1,p2,q0p,AV.cells,Nat.reduceAdd,Nat.reduceLeDiff,q00,q0b,ifV,unA,q0P,q0T,q0r,AV.one,over,lcl,q0O,dr,xbf];refine Res.eq ?_ rfl
  (repeat apply Fr.lays)
  exact Fr.refl _
end
section
section
variable {m:Mem} {b:Nat} {st:LSt} {F:List Nat}
theorem z96 (h:q0I m b st F) (w:LWf st) (name:List UInt8) :
  ∃m' F',run E22 (.fn 66) [.ptr (some ⟨b,0⟩),.str name] m=some (.tup [.int .u64 (z5m st name).1,.int .i64 (z5m st name).2.1],m')/\q0I m' b (z5m st name).2.2 F'/\Fr m m' F/\∀c,c∈F'->c∈F\/m.next<=c:=by
 have gp:=z2w (H:=H22) rfl h (by have:=w.lp;omega) name;have hlat:=w.lat;have hla:=w.la;obtain⟨sp,sq,sa,rp,rq,ra,h1,h2,h3,h4,h5,h6,h7,h8,h9,h10,hF⟩:=h.ex;have hb:=Mem.q0u h1;have a3:∀i:Nat,ld1 m (.ptr (some ⟨b,i⟩))=[sp,sq,sa,.int .u64 st.latest,.int .i64 st.most][i]?:=fun i=>q0e h1
 have gp0:=gp m (Fr.refl m);have done:∀v:AV,∃m' F',some (v,m)=some (v,m')/\q0I m' b st F'/\Fr m m' F/\∀c,c∈F'->c∈F\/m.next<=c:=fun v=>⟨m,F,rfl,h,Fr.refl' _ _,fun c hc=>.inl hc⟩
 unfold z5m;cases hk:q1u q0g name (st.q0d.map (·.name)) with
 |false=>
  rw[z94 w hk]at gp0;simp only[xAd];simp only[z9a (H:=H22) rfl,F66,p2,q0b,q1M,gp0,dt (show (-1:Int)<0 by omega)];exact done _
 |true=>
  rw[z2v w hk]at gp0;simp only[Bool.true_eq_false,xAh];obtain⟨ax,az,ac,ae,esa⟩:=h4.len;rw[xlm]at esa;have c0:=df (show ¬((st.iP name:Nat):Int)<0 by omega);by_cases hm:st.most<=(st.q0s.length:Int)
  ·rw[xAb (.inl hm)];subst esa;simp only[z9a (H:=H22) rfl,F66,p2,q0b,q1M,gp0,c0];simp only[z1H (H:=H22),j3u,p1,q1,p2,nnA,q0b,ifV,q1M,a3,dt (show (st.q0s.length:Int)>=st.most from hm)];exact done _
  ·by_cases hlt:72057594037927935<=st.latest
   ·rw[xAb (.inr hlt)];subst esa;simp only[z9a (H:=H22) rfl,F66,p2,q0b,q1M,gp0,c0];simp only[z1H (H:=H22),j3u,p1,q1,p2,nnA,q0b,ifV,q1M,a3,df (show ¬(st.q0s.length:Int)>=st.most from hm),dt (show st.latest>=72057594037927935 from hlt)];exact done _
   ·rw[xAa (by omega)];clear done;obtain⟨m1,hm1⟩:∃m1,m1=m.put b (some (.cells [sp,sq,sa,.int .u64 (st.latest+1),.int .i64 st.most] false)):=⟨_,rfl⟩;have s1:stV m (.ptr (some ⟨b,3⟩)) (.int .u64 (st.latest+1)) 1=some m1:=by
     have:=q1B (v:=.int .u64 (st.latest+1)) (o:=3) (n:=1) h1 rfl rfl (by simp);rw[hm1];simpa using this
    have B1:m1.get b=some (.cells [sp,sq,sa,.int .u64 (st.latest+1),.int .i64 st.most] false):=by rw[hm1];exact q0x h1
    have n1:m1.next=m.next:=by rw[hm1];rfl
    have f1:Fr m m1 [b]:=by rw[hm1];exact Fr.put _ _ _
    have h4':=h4.frame f1 (fun c hc=>by simp only[xms];rintro rfl;exact h7 (by rw[hc];simp))
    obtain⟨bc,ex,m3,g1,g2,g3,g4,_⟩:=j0L (w:=40) h4' (q4u (by rw[xlm];omega) (by decide));have B3:=g3.get B1 (by simp);have n3:=g3.next
    obtain⟨m4,hm4⟩:∃m4,m4=m3.lay (.cells (q1v.mk (st.latest+1) name ⟨0,0⟩).cells false):=⟨_,rfl⟩;have f4:Fr m3 m4 []:=by rw[hm4];exact(Fr.refl m3).lay _
    have n4:m4.next=m3.next+1:=by rw[hm4];rfl
    have X4:m4.get m3.next=some (.cells (q1v.mk (st.latest+1) name ⟨0,0⟩).cells false):=by rw[hm4];exact q0k _ _
    obtain⟨s',m5,j1,j2,j3,j4⟩:=j3F (w:=40) (ex:=ex) h4.1 (f4.get g2 (by simp)) X4 rfl rfl (q4u (by rw[xlm];omega) (by decide));have B5:=j4.get (f4.get B3 (by simp)) (by simp;omega);have s'1:=j2.one;obtain⟨m6,hm6⟩:∃m6,m6=m5.put b (some (.cells [sp,sq,s',.int .u64 (st.latest+1),.int .i64 st.most] false)):=⟨_,rfl⟩;have s6:stV m5 (.ptr (some ⟨b,2⟩)) s' 1=some m6:=by
     have:=q1B (v:=s') (vs:=[s']) (o:=2) (n:=1) B5 (q3k s'1) rfl (by simp);rw[hm6];simpa using this
    have B6:m6.get b=some (.cells [sp,sq,s',.int .u64 (st.latest+1),.int .i64 st.most] false):=by rw[hm6];exact q0x B5
    have f6:Fr m5 m6 [b]:=by rw[hm6];exact Fr.put _ _ _
    have fA:Fr m m6 [b]:=(((f1.step g3 (by simp)).step f4 (by simp)).step j4 (fun c hc=>.inr (by simp at hc;omega))).step f6 (fun c hc=>.inl hc)
    have nb:∀{r:Option Nat},b∉r.toList->∀c,r=some c->c∉[b]:=fun hr c hc=>by simp only[xms];rintro rfl;exact hr (by rw[hc];simp)
    have e4:st.q0s.map (·.cells)++[(q1v.mk (st.latest+1) name ⟨0,0⟩).cells]=(st.q0s++[q1v.mk (st.latest+1) name ⟨0,0⟩]).map (·.cells):=by simp
    rw[e4]at j2;have lp:∀c,c∈rp.toList->c<m.next:=fun c hc=>by rw[xAw]at hc;subst hc;exact h2.lt
    have lq:∀c,c∈rq.toList->c<m.next:=fun c hc=>by rw[xAw]at hc;subst hc;exact h3.lt
    have n6:m.next<=m4.next:=by omega
    refine⟨m6,b::(rp.toList++rq.toList++(some m4.next).toList),?_,⟨sp,sq,s',rp,rq,some m4.next,B6,h2.frame fA (nb h5),h3.frame fA (nb h6),j2.frame f6 (fun c hc=>by cases hc;simp;omega),h5,h6,by simp;omega,h8,?_,?_,rfl⟩,fA.mono (by rw[hF];simp),?_⟩
    ·have a31:∀i:Nat,ld1 m1 (.ptr (some ⟨b,i⟩))=[sp,sq,sa,.int .u64 (st.latest+1),.int .i64 st.most][i]?:=fun i=>q0e B1
     have a32:∀i:Nat,ld1 (m1.lay (.cells [] false)) (.ptr (some ⟨b,i⟩))=[sp,sq,sa,.int .u64 (st.latest+1),.int .i64 st.most][i]?:=fun i=>q0e (((Fr.refl m1).lay _).get B1 (by simp))
     have a33:∀i:Nat,ld1 m3 (.ptr (some ⟨b,i⟩))=[sp,sq,sa,.int .u64 (st.latest+1),.int .i64 st.most][i]?:=fun i=>q0e B3
     have a36:∀i:Nat,ld1 m6 (.ptr (some ⟨b,i⟩))=[sp,sq,s',.int .u64 (st.latest+1),.int .i64 st.most][i]?:=fun i=>q0e B6
     have wl:IntKind.wrap .u64 (st.latest+1)=st.latest+1:=wrap_u64 (by omega) (by omega);have bs:=q40 (n:=4) (zs:=[.int .u64 0,.str [],.int .i64 0,.int .u64 0]) (cs:=(q1v.mk (st.latest+1) name ⟨0,0⟩).cells) rfl rfl rfl;simp only[q1v.cells]at bs hm4;subst esa;simp only[z9a (H:=H22) rfl,F66,p2,q0b,q1M,gp0,c0];simp only[z1H (H:=H22),j3u,p1,q1,p2,nnA,q0b,ifV,q1M,a3,df (show ¬(st.q0s.length:Int)>=st.most from hm),df (show ¬st.latest>=72057594037927935 from hlt)]
     simp only[a2G (H:=H22),a7A,p1,q1,p2,apE,q0p,AV.cells,Nat.reduceAdd,Nat.reduceLeDiff,nnA,q1M,a3,wl,s1,bs0,a32,g1,a33,bs,<-hm4,j1,s6,a36]
    ·intro c h1' h2';simp only[xCo,xms]at h2';have:=lp c h1';omega
    ·intro c h1' h2';simp only[xCo,xms]at h2';have:=lq c h1';omega
    ·intro c hc;rw[hF];simp only[xmk0,xma,xCo,xFq,or_false]at hc⊢;rcases hc with hc|(hc|hc)|hc
     ·exact .inl (.inl hc)
     ·exact .inl (.inr (.inl (.inl hc)))
     ·exact .inl (.inr (.inl (.inr hc)))
     ·exact .inr (by omega)
end
end
section
theorem b0U (p q:q0v):q0E TP .neq 153 (.agg p.cells) (.agg q.cells)=some (.bool (!decide (p=q))):=by
 obtain⟨a,b,⟨c,d⟩⟩:=p;obtain⟨a',b',⟨c',d'⟩⟩:=q;have h:eqA TP 50 153 (.agg [.str a,.int .i64 b,.int .i64 c,.int .u64 d]) (.agg [.str a',.int .i64 b',.int .i64 c',.int .u64 d'])=(match (a==a') with|true=>(match (b==b') with|true=>(match (match (c==c') with|true=>(match (d==d') with|true=>some true|false=>some false)|false=>some false) with|some true=>some true|some false=>some false|none=>none)|false=>some false)|false=>some false):=by kernel_rfl
 have h2:q0E TP .neq 153 (.agg [.str a,.int .i64 b,.int .i64 c,.int .u64 d]) (.agg [.str a',.int .i64 b',.int .i64 c',.int .u64 d'])=(match eqA TP 50 153 (.agg [.str a,.int .i64 b,.int .i64 c,.int .u64 d]) (.agg [.str a',.int .i64 b',.int .i64 c',.int .u64 d']) with|some b=>some (.bool (!b))|none=>none):=by kernel_rfl
 have k:decide (q0v.mk a b ⟨c,d⟩=q0v.mk a' b' ⟨c',d'⟩)=((a==a')&&((b==b')&&((c==c')&&(d==d')))):=by
  rw[q7l,xDl];simp
 simp only[q0v.cells];rw[h2,h,k];cases (a==a')<;>cases (b==b')<;>cases (c==c')<;>cases (d==d')<;>rfl
theorem a8i (p q:q1v):q0E TP .neq 162 (.agg p.cells) (.agg q.cells)=some (.bool (!decide (p=q))):=by
 obtain⟨a,b,⟨c,d⟩⟩:=p;obtain⟨a',b',⟨c',d'⟩⟩:=q;have h:eqA TP 50 162 (.agg [.int .u64 a,.str b,.int .i64 c,.int .u64 d]) (.agg [.int .u64 a',.str b',.int .i64 c',.int .u64 d'])=(match (a==a') with|true=>(match (b==b') with|true=>(match (match (c==c') with|true=>(match (d==d') with|true=>some true|false=>some false)|false=>some false) with|some true=>some true|some false=>some false|none=>none)|false=>some false)|false=>some false):=by kernel_rfl
 have h2:q0E TP .neq 162 (.agg [.int .u64 a,.str b,.int .i64 c,.int .u64 d]) (.agg [.int .u64 a',.str b',.int .i64 c',.int .u64 d'])=(match eqA TP 50 162 (.agg [.int .u64 a,.str b,.int .i64 c,.int .u64 d]) (.agg [.int .u64 a',.str b',.int .i64 c',.int .u64 d']) with|some b=>some (.bool (!b))|none=>none):=by kernel_rfl
 have k:decide (q1v.mk a b ⟨c,d⟩=q1v.mk a' b' ⟨c',d'⟩)=((a==a')&&((b==b')&&((c==c')&&(d==d')))):=by
  rw[q7l,xDl];simp
 simp only[q1v.cells];rw[h2,h,k];cases (a==a')<;>cases (b==b')<;>cases (c==c')<;>cases (d==d')<;>rfl
theorem b0R (p q:q0D):q0E TP .neq 158 (.agg p.cells) (.agg q.cells)=some (.bool (!decide (p=q))):=by
 obtain⟨x,y,⟨a,b⟩,s,⟨c,d⟩,⟨e,f⟩⟩:=p;obtain⟨x',y',⟨a',b'⟩,s',⟨c',d'⟩,⟨e',f'⟩⟩:=q;have h:eqA TP 50 158 (.agg [.str x,.str y,.int .i64 a,.int .u64 b,.int .i64 s,.int .i64 c,.int .u64 d,.int .i64 e,.int .u64 f]) (.agg [.str x',.str y',.int .i64 a',.int .u64 b',.int .i64 s',.int .i64 c',.int .u64 d',.int .i64 e',.int .u64 f']) =
  (match (x==x') with|true=>(match (y==y') with|true=>(match (match (match (a==a') with|true=>(match (b==b') with|true=>some true|false=>some false)|false=>some false) with|some true=>(match (s==s') with|true=>some true|false=>some false)|some false=>some false|none=>none) with|some true=>(match (match (c==c') with|true=>(match (d==d') with|true=>some true|false=>some false)|false=>some false) with|some true=>(match (match (e==e') with|true=>(match (f==f') with|true=>some true|false=>some false)|false=>some false) with|some true=>some true|some false=>some false|none=>none)|some false=>some false|none=>none)|some false=>some false|none=>none)|false=>some false)|false=>some false):=by kernel_rfl
 have h2:q0E TP .neq 158 (.agg [.str x,.str y,.int .i64 a,.int .u64 b,.int .i64 s,.int .i64 c,.int .u64 d,.int .i64 e,.int .u64 f]) (.agg [.str x',.str y',.int .i64 a',.int .u64 b',.int .i64 s',.int .i64 c',.int .u64 d',.int .i64 e',.int .u64 f'])=(match eqA TP 50 158 (.agg [.str x,.str y,.int .i64 a,.int .u64 b,.int .i64 s,.int .i64 c,.int .u64 d,.int .i64 e,.int .u64 f]) (.agg [.str x',.str y',.int .i64 a',.int .u64 b',.int .i64 s',.int .i64 c',.int .u64 d',.int .i64 e',.int .u64 f']) with|some b=>some (.bool (!b))|none=>none):=by kernel_rfl
 have k:decide (q0D.mk x y ⟨a,b⟩ s ⟨c,d⟩ ⟨e,f⟩=q0D.mk x' y' ⟨a',b'⟩ s' ⟨c',d'⟩ ⟨e',f'⟩)=((x==x')&&((y==y')&&(((a==a')&&(b==b'))&&((s==s')&&(((c==c')&&(d==d'))&&((e==e')&&(f==f'))))))):=by
  rw[q7l,q7l,xDl];simp[and_assoc]
 simp only[q0D.cells];rw[h2,h,k];cases (x==x')
 ·rfl
 cases (y==y')
 ·rfl
 cases (a==a')
 ·rfl
 cases (b==b')
 ·rfl
 cases (s==s')
 ·rfl
 cases (c==c')<;>cases (d==d')<;>cases (e==e')<;>cases (f==f')<;>rfl
def z2z (s t:LSt):Bool:=decide (s.q0d=t.q0d)&&decide (s.pairs=t.pairs)&&decide (s.q0s=t.q0s)&&decide (s.latest=t.latest)
def a0M {α:Type} [DecidableEq α] (l k:List α) (i:Nat):Bool:=decide (l[i]? = k[i]?)
theorem z6u {α:Type} [DecidableEq α] {l k:List α} (h:l.length=k.length):q3S (a0M l k) l.length 0=decide (l=k):=by
 rw[xDl,q2t,decide_eq_true_iff];constructor
 ·intro h';apply xCv;intro i;by_cases hi:i<l.length
  ·exact xCk (h' i (by omega) (by omega))
  ·rw[xAu (by omega),xAu (by omega)]
 ·rintro rfl j _ _
  exact dt rfl
section
variable {m:Mem} {x y:Nat} {sp sq sa tp tq ta:AV} {s t:LSt}
theorem j1x (hx:m.get x=some (.cells [sp,sq,sa,.int .u64 s.latest] false)) (hy:m.get y=some (.cells [tp,tq,ta,.int .u64 t.latest] false)) (hs:BkV m sp sq sa s) (ht:BkV m tp tq ta t) (hn:s.q0d.length<=1000000000000000000) (hl:s.q0d.length=t.q0d.length) :
  ∀(d i:Nat),i+d=s.q0d.length->D22.gor 86017 [.ptr (some ⟨x,0⟩),.ptr (some ⟨y,0⟩),.int .i64 (i:Int)] m=if q3S (a0M s.q0d t.q0d) d i=true then D22.gor 86020 [.ptr (some ⟨x,0⟩),.ptr (some ⟨y,0⟩)] m else some (.bool false,m):=by
 have a3:∀i:Nat,ld1 m (.ptr (some ⟨x,i⟩))=[sp,sq,sa,.int .u64 s.latest][i]?:=fun i=>q0e hx
 have b3:∀i:Nat,ld1 m (.ptr (some ⟨y,i⟩))=[tp,tq,ta,.int .u64 t.latest][i]?:=fun i=>q0e hy
 intro d;induction d with
 |zero=>
  intro i hi;have:i=s.q0d.length:=by omega
  subst this;obtain⟨a,sz,cap,ex,e⟩:=hs.p.len;rw[xlm]at e;subst e;simp only[q3S,xAd];simp only[z9j (H:=H22),a0Y,p1,q1,p2,q0b,q0f,a3,df (show ¬((s.q0d.length:Nat):Int)<(s.q0d.length:Int) by omega)]
 |succ d ih=>
  intro i hi;obtain⟨b,o,sz,cap,ex,e,z,_,e2,_,_,e3⟩:=hs.p.fld (i:=i) (by rw[xlm];omega);obtain⟨b',o',sz',cap',ex',e',z',_,e2',_,_,e3'⟩:=ht.p.fld (i:=i) (by rw[xlm];omega);rw[xlm]at e e2 e' e2';rw[xgm]at e3 e3';subst e e';have ne:=b0U (s.q0d[i]'(by omega)) (t.q0d[i]'(by omega));have hd:a0M s.q0d t.q0d i=decide (s.q0d[i]'(by omega)=t.q0d[i]'(by omega)):=by unfold a0M;rw[xgq (by omega),xgq (by omega)];simp
  rw[q3S,hd];simp only[z9j (H:=H22),a0Y,p1,q1,p2,q0b,q0f,a3,dt (show (i:Int)<(s.q0d.length:Int) by omega)];simp only[a2p (H:=H22),a7j,p1,q1,p2,q0b,q0f,a3,b3,eq_true z,eq_true z',xAd,e2,e2',e3,e3',ne];by_cases hp:s.q0d[i]'(by omega)=t.q0d[i]'(by omega)
  ·simp only[dt hp,xbt,xAs];simp only[a2q (H:=H22),a7k,p2,q0f,show (i:Int)+1=((i+1:Nat):Int) by omega,wrap_i64 (n:=((i+1:Nat):Int)) (by omega) (by omega)];exact ih (i+1) (by omega)
  ·simp only[df hp,xbf,xAt,xbq,xAh]
theorem j1y (hx:m.get x=some (.cells [sp,sq,sa,.int .u64 s.latest] false)) (hy:m.get y=some (.cells [tp,tq,ta,.int .u64 t.latest] false)) (hs:BkV m sp sq sa s) (ht:BkV m tp tq ta t) (hn:s.pairs.length<=1000000000000000000) (hl:s.pairs.length=t.pairs.length) :
  ∀(d i:Nat),i+d=s.pairs.length->D22.gor 86021 [.ptr (some ⟨x,0⟩),.ptr (some ⟨y,0⟩),.int .i64 (i:Int)] m=if q3S (a0M s.pairs t.pairs) d i=true then D22.gor 86024 [.ptr (some ⟨x,0⟩),.ptr (some ⟨y,0⟩)] m else some (.bool false,m):=by
 have a3:∀i:Nat,ld1 m (.ptr (some ⟨x,i⟩))=[sp,sq,sa,.int .u64 s.latest][i]?:=fun i=>q0e hx
 have b3:∀i:Nat,ld1 m (.ptr (some ⟨y,i⟩))=[tp,tq,ta,.int .u64 t.latest][i]?:=fun i=>q0e hy
 intro d;induction d with
 |zero=>
  intro i hi;have:i=s.pairs.length:=by omega
  subst this;obtain⟨a,sz,cap,ex,e⟩:=hs.q.len;rw[xlm]at e;subst e;simp only[q3S,xAd];simp only[z9k (H:=H22),a0Z,p1,q1,p2,q0b,q0f,a3,df (show ¬((s.pairs.length:Nat):Int)<(s.pairs.length:Int) by omega)]
 |succ d ih=>
  intro i hi;obtain⟨b,o,sz,cap,ex,e,z,_,e2,_,_,e3⟩:=hs.q.fld (i:=i) (by rw[xlm];omega);obtain⟨b',o',sz',cap',ex',e',z',_,e2',_,_,e3'⟩:=ht.q.fld (i:=i) (by rw[xlm];omega);rw[xlm]at e e2 e' e2';rw[xgm]at e3 e3';subst e e';have ne:=b0R (s.pairs[i]'(by omega)) (t.pairs[i]'(by omega));have hd:a0M s.pairs t.pairs i=decide (s.pairs[i]'(by omega)=t.pairs[i]'(by omega)):=by unfold a0M;rw[xgq (by omega),xgq (by omega)];simp
  rw[q3S,hd];simp only[z9k (H:=H22),a0Z,p1,q1,p2,q0b,q0f,a3,dt (show (i:Int)<(s.pairs.length:Int) by omega)];simp only[a2s (H:=H22),a7m,p1,q1,p2,q0b,q0f,a3,b3,eq_true z,eq_true z',xAd,e2,e2',e3,e3',ne];by_cases hp:s.pairs[i]'(by omega)=t.pairs[i]'(by omega)
  ·simp only[dt hp,xbt,xAs];simp only[a2t (H:=H22),a7n,p2,q0f,show (i:Int)+1=((i+1:Nat):Int) by omega,wrap_i64 (n:=((i+1:Nat):Int)) (by omega) (by omega)];exact ih (i+1) (by omega)
  ·simp only[df hp,xbf,xAt,xbq,xAh]
theorem j1u (hx:m.get x=some (.cells [sp,sq,sa,.int .u64 s.latest] false)) (hy:m.get y=some (.cells [tp,tq,ta,.int .u64 t.latest] false)) (hs:BkV m sp sq sa s) (ht:BkV m tp tq ta t) (hn:s.q0s.length<=1000000000000000000) (hl:s.q0s.length=t.q0s.length) :
  ∀(d i:Nat),i+d=s.q0s.length->D22.gor 86025 [.ptr (some ⟨x,0⟩),.ptr (some ⟨y,0⟩),.int .i64 (i:Int)] m=some (.bool (q3S (a0M s.q0s t.q0s) d i),m):=by
 have a3:∀i:Nat,ld1 m (.ptr (some ⟨x,i⟩))=[sp,sq,sa,.int .u64 s.latest][i]?:=fun i=>q0e hx
 have b3:∀i:Nat,ld1 m (.ptr (some ⟨y,i⟩))=[tp,tq,ta,.int .u64 t.latest][i]?:=fun i=>q0e hy
 intro d;induction d with
 |zero=>
  intro i hi;have:i=s.q0s.length:=by omega
  subst this;obtain⟨a,sz,cap,ex,e⟩:=hs.a.len;rw[xlm]at e;subst e;simp only[q3S];simp only[z9l (H:=H22),a00,p1,q1,p2,q0b,q0f,a3,df (show ¬((s.q0s.length:Nat):Int)<(s.q0s.length:Int) by omega),j5G (H:=H22),j2K,q0f]
 |succ d ih=>
  intro i hi;obtain⟨b,o,sz,cap,ex,e,z,_,e2,_,_,e3⟩:=hs.a.fld (i:=i) (by rw[xlm];omega);obtain⟨b',o',sz',cap',ex',e',z',_,e2',_,_,e3'⟩:=ht.a.fld (i:=i) (by rw[xlm];omega);rw[xlm]at e e2 e' e2';rw[xgm]at e3 e3';subst e e';have ne:=a8i (s.q0s[i]'(by omega)) (t.q0s[i]'(by omega));have hd:a0M s.q0s t.q0s i=decide (s.q0s[i]'(by omega)=t.q0s[i]'(by omega)):=by unfold a0M;rw[xgq (by omega),xgq (by omega)];simp
  rw[q3S,hd];simp only[z9l (H:=H22),a00,p1,q1,p2,q0b,q0f,a3,dt (show (i:Int)<(s.q0s.length:Int) by omega)];simp only[j5E (H:=H22),j2I,p1,q1,p2,q0b,q0f,a3,b3,eq_true z,eq_true z',xAd,e2,e2',e3,e3',ne];by_cases hp:s.q0s[i]'(by omega)=t.q0s[i]'(by omega)
  ·simp only[dt hp,xbt,xAs];simp only[j5F (H:=H22),j2J,p2,q0f,show (i:Int)+1=((i+1:Nat):Int) by omega,wrap_i64 (n:=((i+1:Nat):Int)) (by omega) (by omega)];exact ih (i+1) (by omega)
  ·simp only[df hp,xbf,xAt]
def z5T (s:LSt):Prop:=s.q0d.length<=1000000000000000000/\s.pairs.length<=1000000000000000000/\s.q0s.length<=1000000000000000000
theorem b1k (hs:BkV m sp sq sa s) (ht:BkV m tp tq ta t) (hn:z5T s) :
  Res m (run E22 (.fn 21) [.agg [sp,sq,sa,.int .u64 s.latest],.agg [tp,tq,ta,.int .u64 t.latest]] m) (.bool (z2z s t)):=by
 obtain⟨n1,n2,n3⟩:=hn;obtain⟨M,hM⟩:∃M,M=(m.lay (.cells [sp,sq,sa,.int .u64 s.latest] false)).lay (.cells [tp,tq,ta,.int .u64 t.latest] false):=⟨_,rfl⟩;have fM:Fr m M []:=by rw[hM];(repeat apply Fr.lays);exact Fr.refl _
 have hx:M.get m.next=some (.cells [sp,sq,sa,.int .u64 s.latest] false):=by rw[hM];simp only[Mem.q0J,Mem.q0G,nn1,xAd,xAh]
 have hy:M.get (m.next+1)=some (.cells [tp,tq,ta,.int .u64 t.latest] false):=by rw[hM];simp[Mem.q0J]
 have a3:∀i:Nat,ld1 M (.ptr (some ⟨m.next,i⟩))=[sp,sq,sa,.int .u64 s.latest][i]?:=fun i=>q0e hx
 have b3:∀i:Nat,ld1 M (.ptr (some ⟨m.next+1,i⟩))=[tp,tq,ta,.int .u64 t.latest][i]?:=fun i=>q0e hy
 have lp:=j1x hx hy (hs.q0m fM) (ht.q0m fM) n1;have lq:=j1y hx hy (hs.q0m fM) (ht.q0m fM) n2;have la:=j1u hx hy (hs.q0m fM) (ht.q0m fM) n3;obtain⟨x1,x2,x3,x4,e1⟩:=hs.p.len;obtain⟨x5,x6,x7,x8,e2⟩:=hs.q.len;obtain⟨x9,x10,x11,x12,e3⟩:=hs.a.len;obtain⟨y1,y2,y3,y4,f1⟩:=ht.p.len;obtain⟨y5,y6,y7,y8,f2⟩:=ht.q.len;obtain⟨y9,y10,y11,y12,f3⟩:=ht.a.len;rw[xlm]at e1 e2 e3 f1 f2 f3
 subst e1 e2 e3 f1 f2 f3;have done:∀{b:Bool},b=z2z s t->Res m (some (.bool b,M)) (.bool (z2z s t)):=fun h=>Res.eq fM (by rw[h])
 have fal:∀(h:s.q0d≠t.q0d\/s.pairs≠t.pairs\/s.q0s≠t.q0s\/s.latest≠t.latest),false=z2z s t:=fun h=>by
  unfold z2z;rcases h with h|h|h|h
  ·rw[df h];rfl
  ·rw[df h];simp
  ·rw[df h];simp
  ·rw[df h];simp
 simp only[b3P (H:=H22) rfl,F21,p1,q1,p2,q00,q0b,ifV,q0f,AV.cells,AV.one,lcs,ge,xAd,xom,Mem.q0G,<-hM,a3,b3];by_cases h1:s.q0d.length=t.q0d.length
 ·by_cases h2:s.pairs.length=t.pairs.length
  ·by_cases h3:s.q0s.length=t.q0s.length
   ·by_cases h4:s.latest=t.latest
    ·simp only[show (s.q0d.length:Int)=(t.q0d.length:Int) by omega,show (s.pairs.length:Int)=(t.pairs.length:Int) by omega,show (s.q0s.length:Int)=(t.q0s.length:Int) by omega,h4,xAn,xbt];have l1:=lp h1 s.q0d.length 0 (by omega);have l2:=lq h2 s.pairs.length 0 (by omega);have l3:=la h3 s.q0s.length 0 (by omega);rw[z6u h1]at l1;rw[z6u h2]at l2;rw[z6u h3]at l3;simp only[xAz]at l1 l2 l3
     simp only[a2o (H:=H22),a7i,q0f,l1];by_cases g1:s.q0d=t.q0d
     ·rw[xAb (dt g1)];simp only[a2r (H:=H22),a7l,q0f,l2];by_cases g2:s.pairs=t.pairs
      ·rw[xAb (dt g2)];simp only[a2u (H:=H22),a7o,q0f,l3];exact done (by unfold z2z;rw[dt g1,dt g2,dt h4];simp)
      ·rw[xAa (by simpa using g2)];exact done (fal (.inr (.inl g2)))
     ·rw[xAa (by simpa using g1)];exact done (fal (.inl g1))
    ·simp only[show (s.q0d.length:Int)=(t.q0d.length:Int) by omega,show (s.pairs.length:Int)=(t.pairs.length:Int) by omega,show (s.q0s.length:Int)=(t.q0s.length:Int) by omega,df h4,xAn,xbt,xbf];exact done (fal (.inr (.inr (.inr h4))))
   ·simp only[show (s.q0d.length:Int)=(t.q0d.length:Int) by omega,show (s.pairs.length:Int)=(t.pairs.length:Int) by omega,df (show ¬(s.q0s.length:Int)=(t.q0s.length:Int) by omega),xAn,xbt,xbf];exact done (fal (.inr (.inr (.inl fun e=>h3 (by rw[e])))))
  ·simp only[show (s.q0d.length:Int)=(t.q0d.length:Int) by omega,df (show ¬(s.pairs.length:Int)=(t.pairs.length:Int) by omega),xAn,xbt,xbf];exact done (fal (.inr (.inl fun e=>h2 (by rw[e]))))
 ·simp only[df (show ¬(s.q0d.length:Int)=(t.q0d.length:Int) by omega),xbf];exact done (fal (.inl fun e=>h1 (by rw[e])))
end
end
section
section
variable {m:Mem} {b:Nat} {st:LSt} {F:List Nat}
theorem uP:∃e,TP.underlying 24=some (.slice e)/\szT TP e=some 4:=⟨153,by kernel_rfl,by kernel_rfl⟩
theorem j1l (h:q0I m b st F) (w:LWf st) (name:List UInt8) (t2:AV):∀(d k:Nat),k+d=lb q0g name (st.q0d.map (·.name))->
  D22.gor 266241 [.ptr (some ⟨b,0⟩),.str name,t2,.int .i64 (k:Int)] m=D22.gor 266243 [.ptr (some ⟨b,0⟩),.str name,t2,.int .i64 ((lb q0g name (st.q0d.map (·.name)):Nat):Int)] m:=by
 obtain⟨sp,sq,sa,rp,rq,ra,h1,h2,h3,h4,h5⟩:=h.ex;have a3:∀i:Nat,ld1 m (.ptr (some ⟨b,i⟩))=[sp,sq,sa,.int .u64 st.latest,.int .i64 st.most][i]?:=fun i=>q0e h1
 obtain⟨e,he,hs⟩:=uP;have hle:=j03 (lt:=q0g) name (st.q0d.map (·.name));rw[xlm]at hle;have hlp:=w.lp;have hlen:=h2.v.q2e he;rw[xlm]at hlen;intro d;induction d with
 |zero=>
  intro k hk;have:k=lb q0g name (st.q0d.map (·.name)):=by omega
  rw[<-this];by_cases hlt:k<st.q0d.length
  ·obtain⟨bb,o,_,x2,x3,_,_⟩:=h2.v.ixT he hs (i:=k) (by rw[xlm];exact hlt);have x4:=x3 0 (by omega);rw[xgm]at x4;have hat:=a3y (lt:=q0g) (k:=name) (ks:=st.q0d.map (·.name)) (by rw[xlm];omega);simp only[<-this,xgm]at hat;simp only[ge,q0v.cells,xna]at x4;simp only[z1G (H:=H22),j3t,p1,q1,p2,nnA,q0b,ifV,q1M,a3,hlen,dt (show (k:Int)<(st.q0d.length:Int) by omega),x2,x4,hat]
  ·simp only[z1G (H:=H22),j3t,p1,q1,p2,nnA,q0b,ifV,q1M,a3,hlen,df (show ¬(k:Int)<(st.q0d.length:Int) by omega)]
 |succ d ih=>
  intro k hk;have hlt:k<st.q0d.length:=by omega
  obtain⟨bb,o,_,x2,x3,_,_⟩:=h2.v.ixT he hs (i:=k) (by rw[xlm];exact hlt);have x4:=x3 0 (by omega);rw[xgm]at x4;have hbe:=q8l (lt:=q0g) (k:=name) (ks:=st.q0d.map (·.name)) (j:=k) (by rw[xlm];omega) (by omega);rw[xgm]at hbe;simp only[ge,q0v.cells,xna]at x4;simp only[z1G (H:=H22),j3t,p1,q1,p2,nnA,q0b,ifV,q1M,a3,hlen,dt (show (k:Int)<(st.q0d.length:Int) by omega),x2,x4,hbe]
  simp only[a2E (H:=H22),a7y,p2,q1M,show (k:Int)+1=((k+1:Nat):Int) by omega,wrap_i64 (n:=((k+1:Nat):Int)) (by omega) (by omega)];exact ih (k+1) (by omega)
theorem q0I.q0d {sp sq sa sp':AV} {rq ra:Option Nat} {r:Nat} {ps:List q0v} {m':Mem} (h1:m.get b=some (.cells [sp,sq,sa,.int .u64 st.latest,.int .i64 st.most] false)) (h3:q08 9 m sq (st.pairs.map (·.cells)) rq) (h4:q08 4 m sa (st.q0s.map (·.cells)) ra)
  (h6:b∉rq.toList) (h7:b∉ra.toList) (h10:Dj rq.toList ra.toList) (hf:Fr m m' []) (hr:q08 4 m' sp' (ps.map (·.cells)) (some r)) (hn:m.next<=r) :
  ∃m2 F',stV m' (.ptr (some ⟨b,0⟩)) sp' 1=some m2/\q0I m2 b {st with q0d:=ps} F'/\Fr m m2 [b]/\∀c,c∈F'->c=b\/c∈rq.toList\/c∈ra.toList\/m.next<=c:=by
 have B:=hf.get h1 (by simp);have hb:=Mem.q0u h1;have s1:=hr.one;have lq:∀c,c∈rq.toList->c<m.next:=fun c hc=>by rw[xAw]at hc;subst hc;exact h3.lt
 have la:∀c,c∈ra.toList->c<m.next:=fun c hc=>by rw[xAw]at hc;subst hc;exact h4.lt
 have sv:stV m' (.ptr (some ⟨b,0⟩)) sp' 1=some (m'.put b (some (.cells [sp',sq,sa,.int .u64 st.latest,.int .i64 st.most] false))):=by
  have:=q1B (v:=sp') (vs:=[sp']) (o:=0) (n:=1) B (q3k s1) rfl (by simp);simpa using this
 have fp:Fr m' (m'.put b (some (.cells [sp',sq,sa,.int .u64 st.latest,.int .i64 st.most] false))) [b]:=Fr.put _ _ _;have fA:Fr m (m'.put b (some (.cells [sp',sq,sa,.int .u64 st.latest,.int .i64 st.most] false))) [b]:=(hf.any _).step fp (fun c hc=>.inl hc)
 have nb:∀{r:Option Nat},b∉r.toList->∀c,r=some c->c∉[b]:=fun hr c hc=>by simp only[xms];rintro rfl;exact hr (by rw[hc];simp)
 refine⟨_,b::((some r).toList++rq.toList++ra.toList),sv,⟨sp',sq,sa,some r,rq,ra,q0x B,hr.frame fp (fun c hc=>by cases hc;simp;omega),h3.frame fA (nb h6),h4.frame fA (nb h7),by simp;omega,h6,h7,?_,?_,h10,rfl⟩,fA,?_⟩
 ·intro c h1' h2';simp only[xCo,xms]at h1';have:=lq c h2';omega
 ·intro c h1' h2';simp only[xCo,xms]at h1';have:=la c h2';omega
 ·intro c hc;simp only[xmk0,xma,xCo,xFq,or_false]at hc;rcases hc with hc|(hc|hc)|hc
  ·exact .inl hc
  ·exact .inr (.inr (.inr (by omega)))
  ·exact .inr (.inl hc)
  ·exact .inr (.inr (.inl hc))
theorem a4h (h:q0I m b st F) (w:LWf st) (name:List UInt8) (hn:name.length<4611686018427387904) {scale:Int} (h0:0<=scale) :
  ∃m' F',run E22 (.fn 65) [.ptr (some ⟨b,0⟩),.str name,.int .u64 scale] m=some (.int .i64 (z6H st name scale).1,m')/\q0I m' b (z6H st name scale).2 F'/\Fr m m' F/\∀c,c∈F'->c∈F\/m.next<=c:=by
 have rn:=fun m=>a4q (H:=H22) rfl name hn m
 have gp:=z2w (H:=H22) rfl h (by have:=w.lp;omega) name;have gp0:=gp m (Fr.refl m);have hlp:=w.lp;have lo:=j1l h w name (.int .u64 scale);obtain⟨sp,sq,sa,rp,rq,ra,h1,h2,h3,h4,h5,h6,h7,h8,h9,h10,hF⟩:=h.ex;have hb:=Mem.q0u h1;have a3:∀i:Nat,ld1 m (.ptr (some ⟨b,i⟩))=[sp,sq,sa,.int .u64 st.latest,.int .i64 st.most][i]?:=fun i=>q0e h1
 obtain⟨e,he,hs⟩:=uP;have hlen:=h2.v.q2e he;rw[xlm]at hlen;have done:∀v:AV,∃m' F',some (v,m)=some (v,m')/\q0I m' b st F'/\Fr m m' F/\∀c,c∈F'->c∈F\/m.next<=c:=fun v=>⟨m,F,rfl,h,Fr.refl' _ _,fun c hc=>.inl hc⟩
 unfold z6H;cases hnb:q4R name with
 |false=>
  rw[hnb]at rn;rw[xAb rfl];simp only[z3L (H:=H22) rfl,F65,p1,p2,q1,nnA,q0b,unA,q1M,rn,xbf];exact done _
 |true=>
  rw[hnb]at rn;rw[xAa (by decide)];by_cases hsc:18<scale
  ·rw[xAb hsc];simp only[z3L (H:=H22) rfl,F65,p1,p2,q1,nnA,q0b,unA,q1M,rn,xbt,dt hsc];exact done _
  ·rw[xAa hsc];cases hk:q1u q0g name (st.q0d.map (·.name)) with
   |true=>
    rw[z2v w hk]at gp0;rw[xAb rfl];simp only[z3L (H:=H22) rfl,F65,p1,p2,q1,nnA,q0b,unA,q1M,rn,xbt,df hsc,gp0,dt (show (0:Int)<=((st.iP name:Nat):Int) by omega)];exact done _
   |false=>
    rw[z94 w hk]at gp0;rw[xAa (by decide)];by_cases h8p:8<=st.q0d.length
    ·rw[xAb h8p];simp only[z3L (H:=H22) rfl,F65,p1,p2,q1,nnA,q0b,unA,q1M,rn,xbt,df hsc,gp0,df (show ¬(0:Int)<=-1 by omega),a3,hlen,dt (show (8:Int)<=(st.q0d.length:Int) by omega)];exact done _
    ·rw[xAa h8p];obtain⟨k,hk'⟩:∃k,k=lb q0g name (st.q0d.map (·.name)):=⟨_,rfl⟩;have l0:=lo k 0 (by omega);rw[<-hk']at l0⊢;have hkl:k<=(st.q0d.map (·.cells)).length:=by rw[xlm,hk'];have:=j03 (lt:=q0g) name (st.q0d.map (·.name));rw[xlm]at this;exact this
     obtain⟨u1,u2⟩:=h2.upTo he hs hkl;obtain⟨v1,v2⟩:=h2.q99 he hs hkl;obtain⟨s1,m1,s2,m2,s3,m3,r,q1,q2,q3,q4,f1,f2,f3,q5⟩:=z9H (w:=40) (by omega) h2 hkl u2 v2 (new:=(q0v.mk name scale ⟨0,0⟩).cells) rfl rfl (q4u (by rw[xlm];omega) (by decide));rw[<-q6R (·.cells) k (q0v.mk name scale ⟨0,0⟩)]at q4;obtain⟨m4,F',z1,z2,z3,z4⟩:=q0I.q0d h1 h3 h4 h6 h7 h10 f3 q4 q5;have a31:∀i:Nat,ld1 m1 (.ptr (some ⟨b,i⟩))=[sp,sq,sa,.int .u64 st.latest,.int .i64 st.most][i]?:=fun i=>q0e (f1.get h1 (by simp))
     have a32:∀i:Nat,ld1 m2 (.ptr (some ⟨b,i⟩))=[sp,sq,sa,.int .u64 st.latest,.int .i64 st.most][i]?:=fun i=>q0e (f2.get h1 (by simp))
     have a33:∀i:Nat,ld1 (m1.lay (.cells (q0v.mk name scale ⟨0,0⟩).cells false)) (.ptr (some ⟨b,i⟩))=[sp,sq,sa,.int .u64 st.latest,.int .i64 st.most][i]?:=fun i=>q0e ((f1.step0 ((Fr.refl m1).lay _)).get h1 (by simp))
     refine⟨m4,F',?_,z2,z3.mono (by rw[hF];simp),fun c hc=>?_⟩
     ·simp only[z3L (H:=H22) rfl,F65,p1,p2,nnA,q0b,unA,q1M,rn,xbt,df hsc,gp0,df (show ¬(0:Int)<=-1 by omega),a3,hlen,df (show ¬(8:Int)<=(st.q0d.length:Int) by omega)];simp only[xAz]at l0;have bs:=q40 (n:=4) (zs:=[.str [],.int .i64 0,.int .i64 0,.int .u64 0]) (cs:=(q0v.mk name scale ⟨0,0⟩).cells) rfl rfl rfl;simp only[q0v.cells]at bs q2 a33;have ws:IntKind.wrap .i64 scale=scale:=wrap_i64 (by omega) (by omega)
      simp only[a2D (H:=H22),a7x,q1M,l0];simp only[a2F (H:=H22),a7z,p1,q1,p2,apE,q0p,AV.cells,Nat.reduceAdd,Nat.reduceLeDiff,nnA,q1M,a3,u1,ws,bs,a33,q2,a32,v1,q3,z1]
     ·rcases z4 c hc with h|h|h|h
      ·exact .inl (by rw[hF,h];simp)
      ·exact .inl (by rw[hF];simp[h])
      ·exact .inl (by rw[hF];simp[h])
      ·exact .inr h
end
end
end Go.Proofs.YtkbhcgifnnhbaaaGreatDoor
