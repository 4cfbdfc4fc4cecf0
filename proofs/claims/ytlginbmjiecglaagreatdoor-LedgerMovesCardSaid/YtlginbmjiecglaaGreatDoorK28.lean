/- Texts of one claim, put together. -/
import Derived.Test.YtlginbmjiecglaaGreatDoorK0
import Derived.Test.YtlginbmjiecglaaGreatDoorK19
import Derived.Test.YtlginbmjiecglaaGreatDoorK27
namespace Go.Proofs.YtlginbmjiecglaaGreatDoor
section
set_option maxRecDepth 4000
open Go Go.Abs
theorem rname_is (s:List UInt8) (hl:s.length<4611686018427387904) (m:Mem):run E19 (.fn 35) [.str s] m=some (.bool (q66 s),m):=by
 by_cases h3:s.length=3
 ·match s,h3 with
  |[a,b,c],_=>
   have w1:IntKind.wrap .i64 (0+1)=1:=wrap_i64 (by omega) (by omega)
   have w2:IntKind.wrap .i64 (1+1)=2:=wrap_i64 (by omega) (by omega)
   have w3:IntKind.wrap .i64 (2+1)=3:=wrap_i64 (by omega) (by omega)
   have c0:decide ((0:Int)<3)=true:=by decide
   have c1:decide ((1:Int)<3)=true:=by decide
   have c2:decide ((2:Int)<3)=true:=by decide
   have c3:decide ((3:Int)<3)=false:=by decide
   have d3:decide ((([a,b,c]:List UInt8).length:Int)=3)=true:=by simp
   have n0:(0:Int).toNat=0:=rfl
   have n1:(1:Int).toNat=1:=rfl
   have n2:(2:Int).toNat=2:=rfl
   have pz0:(0:Int)≤0:=by omega
   have pz1:(0:Int)≤1:=by omega
   have pz2:(0:Int)≤2:=by omega
   have key:∀x:UInt8,(decide (65≤x.toNat)&&decide (x.toNat≤90))=(!decide ((x.toNat:Int)<65)&&!decide ((90:Int)<(x.toNat:Int))):=by
    intro x
    rw[←decide_not,←decide_not]
    congr 1<;>(apply decide_eq_decide.mpr;omega)
   unfold q66
   simp only[List.all_cons,List.all_nil,key,List.length_cons,List.length_nil]
   simp only[f35_is (H:=H19) rfl,T.f35,p1,p2,q0a,w_f35,d3,Bool.not_true,g35_0_is (H:=H19),T.g35_0,w_g35_0]
   simp only[z1j (H:=H19),T.g35_1,p2,q0a,z9f,c0]
   simp only[ge,z6x (H:=H19),T.g35_2,p2,q0a,ifV,j41,if_pos pz0,n0]
   by_cases a1:(a.toNat:Int)<65
   ·simp[a1]
   ·by_cases a2:(90:Int)<(a.toNat:Int)
    ·simp[a1,a2]
    ·simp only[df a1,df a2]
     simp only[z6y (H:=H19),T.g35_3,p2,j42,w1]
     simp only[z1j (H:=H19),T.g35_1,p2,q0a,z9f,c1]
     simp only[ge,z6x (H:=H19),T.g35_2,p2,q0a,ifV,j41,if_pos pz1,n1]
     by_cases b1:(b.toNat:Int)<65
     ·simp[b1]
     ·by_cases b2:(90:Int)<(b.toNat:Int)
      ·simp[b1,b2]
      ·simp only[df b1,df b2]
       simp only[z6y (H:=H19),T.g35_3,p2,j42,w2]
       simp only[z1j (H:=H19),T.g35_1,p2,q0a,z9f,c2]
       simp only[ge,z6x (H:=H19),T.g35_2,p2,q0a,ifV,j41,if_pos pz2,n2]
       try simp only[q0m,q2c,Option.bind_some]
       by_cases e1:(c.toNat:Int)<65
       ·simp[e1]
       ·by_cases e2:(90:Int)<(c.toNat:Int)
        ·simp[e1,e2]
        ·simp only[df e1,df e2]
         simp only[z6y (H:=H19),T.g35_3,p2,j42,w3]
         simp only[z1j (H:=H19),T.g35_1,p2,q0a,z9f,c3]
         simp[g35_4_is (H:=H19),T.g35_4,w_g35_4]
 ·have e:decide ((s.length:Int)=3)=false:=df (by omega)
  unfold q66
  rw[df h3,Bool.and_false]
  simp only[f35_is (H:=H19) rfl,T.f35,p1,p2,q0a,w_f35,e,Bool.not_false]
def S20:List FuncId:=[36,71,76,35]
noncomputable def H20:FuncId→Option (List AV→Mem→R):=q2w E19 S20
noncomputable abbrev E20:Env:=T.EH H20
theorem E20_ok:EnvOk E20:=q1k E19_ok S20
section
variable {H:FuncId→Option (List AV→Mem→R)} {m:Mem} {b:Nat} {st:LSt} {F:List Nat}
theorem z8i (hh:H 36=some (q0v E19 36)) (h:RefAt m b st F) (hn:st.q0b.length≤1000) (k:List UInt8) (M:Mem) (hM:Fr m M []):run (T.EH H) (.fn 36) [.ptr (some ⟨b,0⟩),.str k] M=some (.int .i64 (q73 (fun p=>decide (p.name=k)) st.q0b 0),M):=
 q0s hh (by simp[AV.flat,AV.lt]) fun m2 h1 h2=>⟨m2,rpurse_is ((h.q0p hM).q0p (Fr.same h1 h2)) hn k,Fr.refl _⟩
theorem j37 (hh:H 71=some (q0v E19 71)) (h:RefAt m b st F) (hn:st.q0n.length≤1000) (k:Int) (M:Mem) (hM:Fr m M []):run (T.EH H) (.fn 71) [.ptr (some ⟨b,0⟩),.int .u64 k] M=some (.int .i64 (q73 (fun p=>decide (p.id=k)) st.q0n 0),M):=
 q0s hh (by simp[AV.flat,AV.lt]) fun m2 h1 h2=>⟨m2,racc_is ((h.q0p hM).q0p (Fr.same h1 h2)) hn k,Fr.refl _⟩
theorem rq_at (hh:H 76=some (q0v E19 76)) (h:RefAt m b st F) (hn:st.pairs.length≤1000) (x y:List UInt8) (M:Mem) (hM:Fr m M []):run (T.EH H) (.fn 76) [.ptr (some ⟨b,0⟩),.str x,.str y] M=some (.int .i64 (q73 (fun p=>decide (p.x=x)&&decide (p.y=y)) st.pairs 0),M):=
 q0s hh (by simp[AV.flat,AV.lt]) fun m2 h1 h2=>⟨m2,rpair_is ((h.q0p hM).q0p (Fr.same h1 h2)) hn x y,Fr.refl _⟩
theorem rname_at (hh:H 35=some (q0v E19 35)) (s:List UInt8) (hl:s.length<4611686018427387904) (m:Mem):run (T.EH H) (.fn 35) [.str s] m=some (.bool (q66 s),m):=
 q0s hh (by simp[AV.flat,AV.lt]) fun m2 _ _=>⟨m2,rname_is s hl m2,Fr.refl _⟩
end
end
section
set_option maxRecDepth 4000
open Go Go.Abs
theorem wd_sum15 {a b:Wd} (ha:a.ok) (hb:b.ok):(a.val+b.val).natAbs<4294967296 ^ 16:=by
 have h1:=q9v ha
 have h2:=q9v hb
 exact Nat.lt_of_le_of_lt (show (a.val+b.val).natAbs≤340282366920938463463374607431768211456 by omega) (by decide)
theorem j86 {a b:Wd} (ha:a.ok) (hb:b.ok):(a.val+-b.val).natAbs<4294967296 ^ 16:=by
 have h1:=q9v ha
 have h2:=q9v hb
 exact Nat.lt_of_le_of_lt (show (a.val+-b.val).natAbs≤340282366920938463463374607431768211456 by omega) (by decide)
theorem raddw_is {a b:Wd} (ha:a.ok) (hb:b.ok) (m:Mem):Res m (run E20 (.fn 73) [.agg a.cells,.agg b.cells] m) (.tup [.agg (Wd.res (a.val+b.val)).1.cells,.int .i64 (Wd.res (a.val+b.val)).2]):=by
 have oa:=fun m=>z0x (H:=H20) rfl ha m
 have ob:=fun m=>z0x (H:=H20) rfl hb m
 have su:=fun m=>j4i (H:=H20) rfl (q7e ha) (q7e hb) m
 have wi:=fun m=>rwid_at (H:=H20) rfl (wd_sum15 ha hb) m
 simp only[Wd.cells]at oa ob wi⊢
 simp only[f73_is (H:=H20) rfl,T.f73,pB,q1,p1,q1h,q0g,q1g,q1i,w_f73,AV.one,over,AV.cells,Nat.reduceAdd,Nat.reduceLeDiff,lcl,oa,ob,su,wi]
 refine Res.eq ?_ rfl
 (repeat apply Fr.lays)
 exact Fr.refl _
theorem rsubw_is {a b:Wd} (ha:a.ok) (hb:b.ok) (m:Mem):Res m (run E20 (.fn 74) [.agg a.cells,.agg b.cells] m) (.tup [.agg (Wd.res (a.val-b.val)).1.cells,.int .i64 (Wd.res (a.val-b.val)).2]):=by
 have oa:=fun m=>z0x (H:=H20) rfl ha m
 have ob:=fun m=>z0x (H:=H20) rfl hb m
 have mi:=fun m=>j18 (H:=H20) rfl (x:=b.val) (q58 (q7e hb) (by omega)) m
 have su:=fun m=>j4i (H:=H20) rfl (y:=-b.val) (q7e ha) (by rw[Int.natAbs_neg];exact q7e hb) m
 have wi:=fun m=>rwid_at (H:=H20) rfl (j86 ha hb) m
 rw[show a.val-b.val=a.val+-b.val by omega]
 simp only[Wd.cells]at oa ob wi⊢
 simp only[f74_is (H:=H20) rfl,T.f74,pB,q1,p1,q1h,q0g,q1g,q1i,w_f74,AV.one,over,AV.cells,Nat.reduceAdd,Nat.reduceLeDiff,lcl,oa,ob,mi,su,wi]
 refine Res.eq ?_ rfl
 (repeat apply Fr.lays)
 exact Fr.refl _
theorem rcmpb_is {a b:Wd} (ha:a.ok) (hb:b.ok) (m:Mem):Res m (run E20 (.fn 116) [.agg (q4d a.val),.agg (q4d b.val)] m) (.int .i64 (sgn (a.val-b.val))):=by
 have mi:=fun m=>j18 (H:=H20) rfl (x:=b.val) (q58 (q7e hb) (by omega)) m
 have su:=fun m=>j4i (H:=H20) rfl (y:=-b.val) (q7e ha) (by rw[Int.natAbs_neg];exact q7e hb) m
 have zr:=fun m=>q9n (H:=H20) rfl (j86 ha hb) m
 rw[show a.val-b.val=a.val+-b.val by omega]
 obtain⟨d,hd⟩:∃d,d=a.val+-b.val:=⟨_,rfl⟩
 rw[←hd]at su zr⊢
 clear hd
 unfold sgn
 simp only[q4d]at mi su⊢
 by_cases h0:d=0
 ·have hz:decide (d.natAbs=0)=true:=dt (by omega)
  rw[hz]at zr
  rw[if_neg (by omega),if_pos h0]
  simp only[j3g (H:=H20) rfl,T.f116,q1,pB,p1,q1h,q0a,Nat.reduceAdd,w_f116,AV.one,AV.cells,Nat.reduceLeDiff,lcd,z16,mi,su,zr]
  refine Res.eq ?_ rfl
  (repeat apply Fr.lays)
  exact Fr.refl _
 ·have hz:decide (d.natAbs=0)=false:=df (by omega)
  rw[hz]at zr
  by_cases hn:d<0
  ·rw[if_pos hn]
   simp only[j3g (H:=H20) rfl,T.f116,q1,pB,p1,q1h,q0a,Nat.reduceAdd,w_f116,AV.one,AV.cells,Nat.reduceLeDiff,lcd,z16,mi,su,zr,j0i (H:=H20),T.g116_0,j8l,dt hn]
   refine Res.eq ?_ rfl
   (repeat apply Fr.lays)
   exact Fr.refl _
  ·rw[if_neg hn,if_neg h0]
   simp only[j3g (H:=H20) rfl,T.f116,q1,pB,p1,q1h,q0a,Nat.reduceAdd,w_f116,AV.one,AV.cells,Nat.reduceLeDiff,lcd,z16,mi,su,zr,j0i (H:=H20),T.g116_0,j8l,df hn,g116_1_is (H:=H20),T.g116_1,w_g116_1]
   refine Res.eq ?_ rfl
   (repeat apply Fr.lays)
   exact Fr.refl _
theorem rrate_is {w:Wd} (hw:w.ok) (s:Int) (m:Mem):Res m (run E20 (.fn 37) [.agg (q02 w s)] m) (.int .i64 (q5r w s)):=by
 have rr:=fun m=>q7w (H:=H20) rfl w s m
 unfold q5r
 obtain⟨wh,wl⟩:=w
 obtain⟨w1,w2,w3,w4⟩:=hw
 simp only at w1 w2 w3 w4
 have hv:(Wd.mk wh wl).val=wh*18446744073709551616+wl:=rfl
 rw[hv]
 simp only[q02]at rr⊢
 by_cases h:0≤s∧s≤18
 ·rw[if_pos h]
  rw[dt h]at rr
  by_cases h1:wh<0
  ·rw[if_neg (by omega)]
   simp only[j5m (H:=H20) rfl,T.f37,q1,p1,q1h,q0a,unA,w_f37,AV.one,AV.cells,Nat.reduceAdd,Nat.reduceLeDiff,lcl,rr,Bool.not_true]
   simp only[z6z (H:=H20),T.g37_0,p1,q1,p2,q0r,Nat.reduceAdd,Nat.reduceLeDiff,q0a,ifV,j43,lcl,dt h1]
   refine Res.eq ?_ rfl
   (repeat apply Fr.lays)
   exact Fr.refl _
  ·by_cases h2:wh=0∧wl=0
   ·rw[if_neg (by omega)]
    simp only[j5m (H:=H20) rfl,T.f37,q1,p1,q1h,q0a,unA,w_f37,AV.one,AV.cells,Nat.reduceAdd,Nat.reduceLeDiff,lcl,rr,Bool.not_true]
    simp only[z6z (H:=H20),T.g37_0,p1,q1,p2,q0r,Nat.reduceAdd,Nat.reduceLeDiff,q0a,ifV,j43,lcl,df h1,q30,dt h2.1,dt h2.2]
    refine Res.eq ?_ rfl
    (repeat apply Fr.lays)
    exact Fr.refl _
   ·rw[if_pos (by omega)]
    have e:(decide (wh=0)&&decide (wl=0))=false:=by
     rw[←Bool.decide_and];exact df h2
    simp only[j5m (H:=H20) rfl,T.f37,q1,p1,q1h,q0a,unA,w_f37,AV.one,AV.cells,Nat.reduceAdd,Nat.reduceLeDiff,lcl,rr,Bool.not_true]
    simp only[z6z (H:=H20),T.g37_0,p1,q1,p2,q0r,Nat.reduceAdd,Nat.reduceLeDiff,q0a,ifV,j43,lcl,df h1,q30,e,g37_1_is (H:=H20),T.g37_1,w_g37_1]
    refine Res.eq ?_ rfl
    (repeat apply Fr.lays)
    exact Fr.refl _
 ·rw[if_neg h]
  rw[df h]at rr
  simp only[j5m (H:=H20) rfl,T.f37,q1,p1,q1h,q0a,unA,w_f37,AV.one,AV.cells,Nat.reduceAdd,Nat.reduceLeDiff,lcl,rr,Bool.not_false]
  refine Res.eq ?_ rfl
  (repeat apply Fr.lays)
  exact Fr.refl _
def S21:List FuncId:=[73,74,116,37]
noncomputable def H21:FuncId→Option (List AV→Mem→R):=q2w E20 S21
noncomputable abbrev E21:Env:=T.EH H21
theorem E21_ok:EnvOk E21:=q1k E20_ok S21
section
variable {H:FuncId→Option (List AV→Mem→R)}
theorem q9i (h:H 73=some (q0v E20 73)) {a b:Wd} (ha:a.ok) (hb:b.ok) (m:Mem):run (T.EH H) (.fn 73) [.agg a.cells,.agg b.cells] m=some (.tup [.agg (Wd.res (a.val+b.val)).1.cells,.int .i64 (Wd.res (a.val+b.val)).2],m):=
 q0s h (by simp[AV.flat,AV.lt,AV.lts,Wd.cells]) fun m2 _ _=>raddw_is ha hb m2
theorem q9m (h:H 74=some (q0v E20 74)) {a b:Wd} (ha:a.ok) (hb:b.ok) (m:Mem):run (T.EH H) (.fn 74) [.agg a.cells,.agg b.cells] m=some (.tup [.agg (Wd.res (a.val-b.val)).1.cells,.int .i64 (Wd.res (a.val-b.val)).2],m):=
 q0s h (by simp[AV.flat,AV.lt,AV.lts,Wd.cells]) fun m2 _ _=>rsubw_is ha hb m2
theorem rcmpb_at (h:H 116=some (q0v E20 116)) {a b:Wd} (ha:a.ok) (hb:b.ok) (m:Mem):run (T.EH H) (.fn 116) [.agg (q4d a.val),.agg (q4d b.val)] m=some (.int .i64 (sgn (a.val-b.val)),m):=
 q0s h (by simp[AV.flat,AV.lt]) fun m2 _ _=>rcmpb_is ha hb m2
theorem j76 (h:H 37=some (q0v E20 37)) {w:Wd} (hw:w.ok) (s:Int) (m:Mem):run (T.EH H) (.fn 37) [.agg (q02 w s)] m=some (.int .i64 (q5r w s),m):=
 q0s h (by simp[AV.flat,AV.lt]) fun m2 _ _=>rrate_is hw s m2
end
theorem rcmpw_is {a b:Wd} (ha:a.ok) (hb:b.ok) (m:Mem):Res m (run E21 (.fn 75) [.agg a.cells,.agg b.cells] m) (.int .i64 (sgn (a.val-b.val))):=by
 have oa:=fun m=>z0x (H:=H21) rfl ha m
 have ob:=fun m=>z0x (H:=H21) rfl hb m
 have cb:=fun m=>rcmpb_at (H:=H21) rfl ha hb m
 simp only[Wd.cells]at oa ob⊢
 simp only[f75_is (H:=H21) rfl,T.f75,q1,q1h,w_f75,AV.one,AV.cells,Nat.reduceAdd,Nat.reduceLeDiff,lcl,oa,ob,cb]
 refine Res.eq ?_ rfl
 (repeat apply Fr.lays)
 exact Fr.refl _
end
section
set_option maxRecDepth 4000
open Go Go.Abs
section
variable {m:Mem} {b:Nat} {st:LSt} {F:List Nat}
theorem z8g (w:LWf st) {k:List UInt8} (h:q1d q0c k (st.q0b.map (·.name))=true):q73 (fun p=>decide (p.name=k)) st.q0b 0=((st.iP k:Nat):Int):=by
 rw[q7p (lt:=q0c) (fun p:PurseV=>p.name) k q15 st.q0b 0 w.sp,if_pos h,Nat.zero_add];rfl
theorem j74 (w:LWf st) {k:List UInt8} (h:q1d q0c k (st.q0b.map (·.name))=false):q73 (fun p=>decide (p.name=k)) st.q0b 0=-1:=by
 rw[q7p (lt:=q0c) (fun p:PurseV=>p.name) k q15 st.q0b 0 w.sp,if_neg (by rw[h];decide)]
theorem j4e (w:LWf st) {k:Int} (h:q1d q0f k (st.q0n.map (·.id))=true):q73 (fun p=>decide (p.id=k)) st.q0n 0=((st.iA k:Nat):Int):=by
 rw[q7p (lt:=q0f) (fun p:AccV=>p.id) k z2t st.q0n 0 w.sa,if_pos h,Nat.zero_add];rfl
theorem j14 (w:LWf st) {k:Int} (h:q1d q0f k (st.q0n.map (·.id))=false):q73 (fun p=>decide (p.id=k)) st.q0n 0=-1:=by
 rw[q7p (lt:=q0f) (fun p:AccV=>p.id) k z2t st.q0n 0 w.sa,if_neg (by rw[h];decide)]
theorem j4a (h:RefAt m b st F) (w:LWf st) (id:Int) :
  Res m (run E21 (.fn 64) [.ptr (some ⟨b,0⟩),.int .u64 id] m) (.tup [.agg (q02 (q08 st id).1 (q08 st id).2.1),.int .i64 (q08 st id).2.2]):=by
 have ga:=j37 (H:=H21) rfl h (by have:=w.la;omega) id
 have gpp:=fun k=>z8i (H:=H21) rfl h (by have:=w.lp;omega) k
 obtain⟨sp,sq,sa,rp,rq,ra,h1,h2,h3,h4,h5⟩:=h.ex
 have hb:=Mem.q0w h1
 have a3:∀i:Nat,ld1 m (.ptr (some ⟨b,i⟩))=[sp,sq,sa,.int .u64 st.latest,.int .i64 st.most][i]?:=fun i=>q0j h1
 unfold q08
 rcases LSt.q10 w id with ⟨e,hn⟩|⟨a,p,e,g1,g2,hid,hka,hpn,hkp,ma,mp⟩
 ·have hk:q1d q0f id (st.q0n.map (·.id))=false:=by
   cases hk:q1d q0f id (st.q0n.map (·.id)) with
   |false=>rfl
   |true=>obtain⟨a,a1,_⟩:=LSt.q2q hk;rw[hn]at a1;cases a1
  rw[j14 w hk]at ga
  rw[e]
  simp (maxDischargeDepth:=20) only [f64_is (H:=H21) rfl,T.f64,pB,p2,p1,q0r,AV.cells,Nat.reduceAdd,Nat.reduceLeDiff,q0a,q1g,q1i,w_f64,AV.one,over,lcl,ga,frl,Fr.refl,dt (show (-1:Int)<0 by omega)]
  refine Res.eq ?_ (by simp[q02])
  (repeat apply Fr.lays)
  exact Fr.refl _
 ·rw[j4e w hka]at ga
  rw[e]
  obtain⟨a',q1,q2,q3,q4⟩:=LSt.q2q hka
  rw[g1]at q1
  cases q1
  have hlt:st.iA id<st.q0n.length:=(List.getElem?_eq_some_iff.1 q3).1
  obtain⟨bb,hbb,x1,x2,x3,x4⟩:=h4.fld (i:=st.iA id) (by rw[List.length_map];exact hlt)
  have hB:bb<m.next:=by subst hbb;exact h4.lt
  rw[List.length_map]at x1 x2
  subst x1
  have ha:st.q0n[st.iA id]=a:=by have q5:st.q0n[st.iA id]? = some a:=q3;rw[List.getElem?_eq_getElem hlt]at q5;simpa using q5
  have x5:=x3 1 (by omega)
  have x6:=x4 2 2 (by omega)
  rw[List.getElem_map,ha]at x5 x6
  rw[hpn]at hkp
  have gp:=gpp a.coin
  rw[z8g w hkp]at gp
  obtain⟨p',p1,p2,p3,p4⟩:=LSt.q2v hkp
  rw[g2]at p1
  cases p1
  have hlt2:st.iP a.coin<st.q0b.length:=(List.getElem?_eq_some_iff.1 p3).1
  obtain⟨bc,hbc,y1,y2,y3,y4⟩:=h2.fld (i:=st.iP a.coin) (by rw[List.length_map];exact hlt2)
  have hC:bc<m.next:=by subst hbc;exact h2.lt
  rw[List.length_map]at y1 y2
  subst y1
  have hp:st.q0b[st.iP a.coin]=p:=by have p5:st.q0b[st.iP a.coin]? = some p:=p3;rw[List.getElem?_eq_getElem hlt2]at p5;simpa using p5
  have y5:=y3 1 (by omega)
  rw[List.getElem_map,hp]at y5
  simp only[ge,AccV.cells,PurseV.cells,List.drop_succ_cons,List.drop_zero,List.take_succ_cons,List.take_zero]at x5 x6 y5
  simp (maxDischargeDepth:=20) only [f64_is (H:=H21) rfl,T.f64,pB,p1,q0r,q0a,q1g,q1i,w_f64,lcl,ga,frl,Fr.refl,df (show ¬((st.iA id:Nat):Int)<0 by omega)]
  simp (maxDischargeDepth:=20) only [g64_0_is (H:=H21),T.g64_0,p1,q1,q0r,AV.cells,Nat.reduceAdd,Nat.reduceLeDiff,nnA,q1g,q1i,w_g64_0,AV.one,over,lcl,q2d hb,a3,true_or,x2,q2d hB,x5,x6,gp,frl,Fr.refl,y2,q2d hC,y5]
  refine Res.eq ?_ (by simp[q02])
  (repeat apply Fr.lays)
  exact Fr.refl _
end
end
section
set_option maxRecDepth 4000
open Go Go.Abs
section
variable {m:Mem} {b:Nat} {st:LSt} {F:List Nat}
theorem rfits_is (h:RefAt m b st F) (w:LWf st) {k:List UInt8} {p:PurseV} (hp:st.q5l k=some p) {x:Wd} (hx:x.ok) (s:Int) :
  Res m (run E21 (.fn 72) [.ptr (some ⟨b,0⟩),.str k,.agg (q02 x s)] m) (.int .i64 (q3b p x s)):=by
 have gp:=z8i (H:=H21) rfl h (by have:=w.lp;omega) k
 obtain⟨sp,sq,sa,rp,rq,ra,h1,h2,h3,h4,h5⟩:=h.ex
 have hb:=Mem.q0w h1
 have a3:∀i:Nat,ld1 m (.ptr (some ⟨b,i⟩))=[sp,sq,sa,.int .u64 st.latest,.int .i64 st.most][i]?:=fun i=>q0j h1
 have hk:q1d q0c k (st.q0b.map (·.name))=true:=by
  cases hk:q1d q0c k (st.q0b.map (·.name)) with
  |true=>rfl
  |false=>rw[LSt.q4h hk]at hp;cases hp
 obtain⟨p',p1',p2',p3,p4⟩:=LSt.q2v hk
 rw[hp]at p1'
 cases p1'
 rw[z8g w hk]at gp
 have hlt:st.iP k<st.q0b.length:=(List.getElem?_eq_some_iff.1 p3).1
 obtain⟨bb,hbb,e,e2,e3,e4⟩:=h2.fld (i:=st.iP k) (by rw[List.length_map];exact hlt)
 have hB:bb<m.next:=by subst hbb;exact h2.lt
 rw[List.length_map]at e e2
 subst e
 have hpp:st.q0b[st.iP k]=p:=by have p5:st.q0b[st.iP k]? = some p:=p3;rw[List.getElem?_eq_getElem hlt]at p5;simpa using p5
 have e5:=e3 1 (by omega)
 rw[List.getElem_map,hpp]at e5
 simp only[ge,PurseV.cells]at e5
 unfold q3b
 obtain⟨xh,xl⟩:=x
 obtain⟨x1,x2,x3,x4⟩:=hx
 simp only at x1 x2 x3 x4
 have hv:(Wd.mk xh xl).val=xh*18446744073709551616+xl:=rfl
 rw[hv]
 simp only[q02]
 by_cases h0:s=p.scale
 ·rw[if_neg (by simp[h0])]
  by_cases g1:xh<0
  ·rw[if_pos (by omega)]
   simp (maxDischargeDepth:=20) only [j5n (H:=H21) rfl,T.f72,p1,q1,p2,q1h,nnA,q0a,w_f72,AV.one,AV.cells,lcl,q2d hb,a3,gp,frl,Fr.refl,true_or,e2,q2d hB,e5,dt h0,Bool.not_true]
   simp only[z7b (H:=H21),T.g72_0,p1,q1,p2,q0r,Nat.reduceAdd,Nat.reduceLeDiff,q0a,ifV,j44,lcl,dt g1]
   refine Res.eq ?_ rfl
   (repeat apply Fr.lays)
   exact Fr.refl _
  ·by_cases g2:xh=0∧xl=0
   ·rw[if_pos (by omega)]
    simp (maxDischargeDepth:=20) only [j5n (H:=H21) rfl,T.f72,p1,q1,p2,q1h,nnA,q0a,w_f72,AV.one,AV.cells,lcl,q2d hb,a3,gp,frl,Fr.refl,true_or,e2,q2d hB,e5,dt h0,Bool.not_true]
    simp only[z7b (H:=H21),T.g72_0,p1,q1,p2,q0r,Nat.reduceAdd,Nat.reduceLeDiff,q0a,ifV,j44,lcl,df g1,q30,dt g2.1,dt g2.2]
    refine Res.eq ?_ rfl
    (repeat apply Fr.lays)
    exact Fr.refl _
   ·rw[if_neg (by omega)]
    have e:(decide (xh=0)&&decide (xl=0))=false:=by
     rw[←Bool.decide_and];exact df g2
    simp (maxDischargeDepth:=20) only [j5n (H:=H21) rfl,T.f72,p1,q1,p2,q1h,nnA,q0a,w_f72,AV.one,AV.cells,lcl,q2d hb,a3,gp,frl,Fr.refl,true_or,e2,q2d hB,e5,dt h0,Bool.not_true]
    simp only[z7b (H:=H21),T.g72_0,p1,q1,p2,q0r,Nat.reduceAdd,Nat.reduceLeDiff,q0a,ifV,j44,lcl,df g1,q30,e,g72_1_is (H:=H21),T.g72_1,w_g72_1]
    refine Res.eq ?_ rfl
    (repeat apply Fr.lays)
    exact Fr.refl _
 ·rw[if_pos h0]
  simp (maxDischargeDepth:=20) only [j5n (H:=H21) rfl,T.f72,p1,q1,p2,q1h,nnA,q0a,w_f72,AV.one,AV.cells,lcl,q2d hb,a3,gp,frl,Fr.refl,true_or,e2,q2d hB,e5,df h0,Bool.not_false]
  refine Res.eq ?_ rfl
  (repeat apply Fr.lays)
  exact Fr.refl _
end
end
end Go.Proofs.YtlginbmjiecglaaGreatDoor
namespace Go.Abs
section
open Go
theorem q1s.sto {n:Nat} {m:Mem} {s:AV} {l:List (List AV)} {rb:Option Nat} (h:q1s n m s l rb) {i:Nat} (hi:i<l.length) {o:Nat} {vs:List AV} (ho:o+vs.length≤n) (hv:vs.all AV.one=true) :
  ∃b,rb=some b∧stV m (.ptr (some ⟨b,i*n+o⟩)) (.agg vs) vs.length=some (m.put b (some (.cells (l.set i (l[i].take o++vs++l[i].drop (o+vs.length))).flatten false)))∧
   q1s n (m.put b (some (.cells (l.set i (l[i].take o++vs++l[i].drop (o+vs.length))).flatten false))) s (l.set i (l[i].take o++vs++l[i].drop (o+vs.length))) rb:=by
 have hl:=h.lens
 obtain⟨b,h1,h2,h3,h4,h5⟩:=h.at hi
 have hli:l[i].length=n:=hl _ (List.getElem_mem hi)
 have hfl:=q2l hl
 have hle:(i+1)*n≤l.length*n:=Nat.mul_le_mul_right n hi
 rw[Nat.succ_mul]at hle
 have hd:l.flatten.drop (i*n)=l[i]++(l.drop (i+1)).flatten:=by
  rw[q3o i hl,List.drop_eq_getElem_cons hi,List.flatten_cons]
 have hlen:(l[i].take o++vs++l[i].drop (o+vs.length)).length=n:=by
  simp only[List.length_append,List.length_take,List.length_drop];omega
 have hone:(l[i].take o++vs++l[i].drop (o+vs.length)).all AV.one=true:=by
  have hx:=(h.1 _ (List.getElem_mem hi)).2
  rw[List.all_append,List.all_append,hv,Bool.and_true,Bool.and_eq_true]
  exact⟨List.all_eq_true.2 fun v hv'=>List.all_eq_true.1 hx v (List.mem_of_mem_take hv'),List.all_eq_true.2 fun v hv'=>List.all_eq_true.1 hx v (List.mem_of_mem_drop hv')⟩
 have key:l.flatten.take (i*n+o)++vs++l.flatten.drop (i*n+o+vs.length)=(l.set i (l[i].take o++vs++l[i].drop (o+vs.length))).flatten:=by
  rw[←j5r hl hi,List.take_add,hd,List.take_append_of_le_length (by omega),Nat.add_assoc,←List.drop_drop,hd,List.drop_append_of_le_length (by omega)]
  have e:l.flatten.drop (i*n+n)=(l.drop (i+1)).flatten:=by rw[←Nat.succ_mul];exact q3o (i+1) hl
  rw[e]
  simp only[List.append_assoc]
 have hst:=q3l (v:=.agg vs) (vs:=vs) (o:=i*n+o) (n:=vs.length) h3 (q19 hv) rfl (by omega)
 rw[key]at hst
 refine⟨b,h1,hst,fun x hx=>?_,.inr ⟨b,h1,by simpa using h2,q05 h3⟩⟩
 rcases List.mem_or_eq_of_mem_set hx with hx|rfl
 ·exact h.1 x hx
 ·exact⟨hlen,hone⟩
theorem RefAt.lt {m:Mem} {b:Nat} {st:LSt} {F:List Nat} (h:RefAt m b st F):∀c,c∈F→c<m.next:=by
 obtain⟨sp,sq,sa,rp,rq,ra,h1,h2,h3,h4,h5,h6,h7,h8,h9,h10,rfl⟩:=h.ex
 intro c hc
 simp only[List.mem_cons,List.mem_append,Option.mem_toList]at hc
 rcases hc with rfl|(hc|hc)|hc
 ·exact Mem.q0w h1
 ·subst hc;exact h2.lt
 ·subst hc;exact h3.lt
 ·subst hc;exact h4.lt
theorem RefAt.stA {m:Mem} {b:Nat} {st:LSt} {F:List Nat} (h:RefAt m b st F) {sp sq sa:AV} (hb:m.get b=some (.cells [sp,sq,sa,.int .u64 st.latest,.int .i64 st.most] false)) {a:AccV} (ga:st.q0n[st.iA a.id]? = some a) (ny:Wd) :
  ∃bb m1,sa=.sl (some ⟨bb,0⟩) 4 st.q0n.length st.q0n.length false∧stV m (.ptr (some ⟨bb,st.iA a.id*4+2⟩)) (.agg ny.cells) 2=some m1∧RefAt m1 b (st.q25 {a with bal:=ny}) F∧Fr m m1 F∧m1.next=m.next∧m1.get b=m.get b:=by
 obtain⟨sp',sq',sa',rp,rq,ra,h1,h2,h3,h4,h5,h6,h7,h8,h9,h10,rfl⟩:=h.ex
 rw[h1]at hb
 simp only[Option.some.injEq,Blk.cells.injEq,List.cons.injEq,and_true]at hb
 obtain⟨rfl,rfl,rfl⟩:=hb
 obtain⟨hlt,hga⟩:=List.getElem?_eq_some_iff.1 ga
 obtain⟨bb,e1,e2,e3⟩:=h4.sto (i:=st.iA a.id) (by rw[List.length_map];exact hlt) (o:=2) (vs:=ny.cells) (by simp[Wd.cells]) rfl
 obtain⟨bb',f1,f2,_⟩:=h4.fld (i:=st.iA a.id) (by rw[List.length_map];exact hlt)
 rw[e1]at f1
 cases f1
 have hv:(st.q0n.map (·.cells)).set (st.iA a.id) (((st.q0n.map fun x:AccV=>x.cells)[st.iA a.id]'(by rw[List.length_map];exact hlt)).take 2++ny.cells++((st.q0n.map fun x:AccV=>x.cells)[st.iA a.id]'(by rw[List.length_map];exact hlt)).drop (2+ny.cells.length))=(st.q25 {a with bal:=ny}).q0n.map (·.cells):=by
  rw[List.getElem_map,hga]
  unfold LSt.q25
  rw[List.map_set];rfl
 rw[hv]at e2 e3
 have hbb:bb≠b:=fun e=>h7 (by rw[e1,e];simp)
 have hf:Fr m (m.put bb (some (.cells ((st.q25 {a with bal:=ny}).q0n.map (·.cells)).flatten false))) [bb]:=Fr.put _ _ _
 refine⟨bb,_,by simpa using f2,e2,⟨sp',sq',sa',rp,rq,ra,hf.get h1 (by simp;exact fun e=>hbb e.symm),h2.frame hf (fun c hc=>?_),h3.frame hf (fun c hc=>?_),e3,h5,h6,h7,h8,h9,h10,rfl⟩,hf.mono (fun c hc=>?_),rfl,?_⟩
 ·simp only[List.mem_singleton];rintro rfl;exact h9 c (by rw[hc];simp) (by rw[e1];simp)
 ·simp only[List.mem_singleton];rintro rfl;exact h10 c (by rw[hc];simp) (by rw[e1];simp)
 ·simp only[List.mem_singleton]at hc;subst hc;rw[e1];simp
 ·exact q3e (fun e=>hbb e.symm)
theorem RefAt.stP {m:Mem} {b:Nat} {st:LSt} {F:List Nat} (h:RefAt m b st F) {sp sq sa:AV} (hb:m.get b=some (.cells [sp,sq,sa,.int .u64 st.latest,.int .i64 st.most] false)) {a:PurseV} (ga:st.q0b[st.iP a.name]? = some a) (ny:Wd) :
  ∃bb m1,sp=.sl (some ⟨bb,0⟩) 4 st.q0b.length st.q0b.length false∧stV m (.ptr (some ⟨bb,st.iP a.name*4+2⟩)) (.agg ny.cells) 2=some m1∧RefAt m1 b (st.setP {a with out:=ny}) F∧Fr m m1 F∧m1.next=m.next∧m1.get b=m.get b:=by
 obtain⟨sp',sq',sa',rp,rq,ra,h1,h2,h3,h4,h5,h6,h7,h8,h9,h10,rfl⟩:=h.ex
 rw[h1]at hb
 simp only[Option.some.injEq,Blk.cells.injEq,List.cons.injEq,and_true]at hb
 obtain⟨rfl,rfl,rfl⟩:=hb
 obtain⟨hlt,hga⟩:=List.getElem?_eq_some_iff.1 ga
 obtain⟨bb,e1,e2,e3⟩:=h2.sto (i:=st.iP a.name) (by rw[List.length_map];exact hlt) (o:=2) (vs:=ny.cells) (by simp[Wd.cells]) rfl
 obtain⟨bb',f1,f2,_⟩:=h2.fld (i:=st.iP a.name) (by rw[List.length_map];exact hlt)
 rw[e1]at f1
 cases f1
 have hv:(st.q0b.map (·.cells)).set (st.iP a.name) (((st.q0b.map fun x:PurseV=>x.cells)[st.iP a.name]'(by rw[List.length_map];exact hlt)).take 2++ny.cells++((st.q0b.map fun x:PurseV=>x.cells)[st.iP a.name]'(by rw[List.length_map];exact hlt)).drop (2+ny.cells.length))=(st.setP {a with out:=ny}).q0b.map (·.cells):=by
  rw[List.getElem_map,hga]
  unfold LSt.setP
  rw[List.map_set];rfl
 rw[hv]at e2 e3
 have hbb:bb≠b:=fun e=>h5 (by rw[e1,e];simp)
 have hf:Fr m (m.put bb (some (.cells ((st.setP {a with out:=ny}).q0b.map (·.cells)).flatten false))) [bb]:=Fr.put _ _ _
 refine⟨bb,_,by simpa using f2,e2,⟨sp',sq',sa',rp,rq,ra,hf.get h1 (by simp;exact fun e=>hbb e.symm),e3,h3.frame hf (fun c hc=>?_),h4.frame hf (fun c hc=>?_),h5,h6,h7,h8,h9,h10,rfl⟩,hf.mono (fun c hc=>?_),rfl,?_⟩
 ·simp only[List.mem_singleton];rintro rfl;exact h8 c (by rw[e1];simp) (by rw[hc];simp)
 ·simp only[List.mem_singleton];rintro rfl;exact h9 c (by rw[e1];simp) (by rw[hc];simp)
 ·simp only[List.mem_singleton]at hc;subst hc;rw[e1];simp
 ·exact q3e (fun e=>hbb e.symm)
end
end Go.Abs
namespace Go.Proofs.YtlginbmjiecglaaGreatDoor
section
set_option maxRecDepth 4000
open Go Go.Abs
def S22:List FuncId:=[72,64,65,75]
noncomputable def H22:FuncId→Option (List AV→Mem→R):=q2w E21 S22
noncomputable abbrev E22:Env:=T.EH H22
theorem E22_ok:EnvOk E22:=q1k E21_ok S22
noncomputable abbrev D22:Do:=T.Rl H22
section
variable {H:FuncId→Option (List AV→Mem→R)} {m:Mem} {b:Nat} {st:LSt} {F:List Nat}
theorem rf_at (hh:H 72=some (q0v E21 72)) (h:RefAt m b st F) (w:LWf st) {k:List UInt8} {p:PurseV} (hp:st.q5l k=some p) {x:Wd} (hx:x.ok) (s:Int) (M:Mem) (hM:Fr m M []):run (T.EH H) (.fn 72) [.ptr (some ⟨b,0⟩),.str k,.agg (q02 x s)] M=some (.int .i64 (q3b p x s),M):=
 q0s hh (by simp[AV.flat,AV.lt]) fun m2 h1 h2=>rfits_is ((h.q0p hM).q0p (Fr.same h1 h2)) w hp hx s
theorem rb_at (hh:H 64=some (q0v E21 64)) (h:RefAt m b st F) (w:LWf st) (id:Int) (M:Mem) (hM:Fr m M []):run (T.EH H) (.fn 64) [.ptr (some ⟨b,0⟩),.int .u64 id] M=some (.tup [.agg (q02 (q08 st id).1 (q08 st id).2.1),.int .i64 (q08 st id).2.2],M):=
 q0s hh (by simp[AV.flat,AV.lt,AV.lts,q02]) fun m2 h1 h2=>j4a ((h.q0p hM).q0p (Fr.same h1 h2)) w id
theorem z8e (hh:H 75=some (q0v E21 75)) {a b:Wd} (ha:a.ok) (hb:b.ok) (m:Mem):run (T.EH H) (.fn 75) [.agg a.cells,.agg b.cells] m=some (.int .i64 (sgn (a.val-b.val)),m):=
 q0s hh (by simp[AV.flat,AV.lt]) fun m2 _ _=>rcmpw_is ha hb m2
end
section
variable {m:Mem} {b:Nat} {st:LSt} {F:List Nat}
theorem z3e (h:RefAt m b st F) (w:LWf st) (id:Int) {x:Wd} (hx:x.ok) (s:Int) :
  ∃m',run E22 (.fn 29) [.ptr (some ⟨b,0⟩),.int .u64 id,.agg (q02 x s)] m=some (.int .i64 (q51 st id x s).1,m')∧RefAt m' b (q51 st id x s).2 F∧Fr m m' F:=by
 have ga:=j37 (H:=H22) rfl h (by have:=w.la;omega) id
 have gpp:=fun k=>z8i (H:=H22) rfl h (by have:=w.lp;omega) k
 have hF:=h.lt
 obtain⟨sp,sq,sa,rp,rq,ra,h1,h2,h3,h4,h5⟩:=h.ex
 have hb:=Mem.q0w h1
 have a3:∀i:Nat,ld1 m (.ptr (some ⟨b,i⟩))=[sp,sq,sa,.int .u64 st.latest,.int .i64 st.most][i]?:=fun i=>q0j h1
 have done:∀M,Fr m M []→∀v:AV,∃m',some (v,M)=some (v,m')∧RefAt m' b st F∧Fr m m' F:=fun M hM v=>⟨M,rfl,h.q0p hM,hM.any F⟩
 unfold q51
 rcases LSt.q10 w id with ⟨e,hn⟩|⟨a,p,e,g1,g2,hid,hka,hpn,hkp,ma,mp⟩
 ·have hk:q1d q0f id (st.q0n.map (·.id))=false:=by
   cases hk:q1d q0f id (st.q0n.map (·.id)) with
   |false=>rfl
   |true=>obtain⟨a,a1,_⟩:=LSt.q2q hk;rw[hn]at a1;cases a1
  rw[j14 w hk]at ga
  rw[e]
  simp only[ne_eq,show ¬(40:Int)=0 by omega,not_false_eq_true,if_true,q02]
  simp (maxDischargeDepth:=20) only [z98 (H:=H22) rfl,T.f29,p2,q1h,q0a,w_f29,AV.one,AV.cells,lcl,ga,frl,Fr.refl,dt (show (-1:Int)<0 by omega)]
  exact done _ ((Fr.refl m).lay _) _
 ·rw[j4e w hka]at ga
  rw[e]
  obtain⟨a',q1,q2,q3,q4⟩:=LSt.q2q hka
  rw[g1]at q1
  cases q1
  have hlt:st.iA id<st.q0n.length:=(List.getElem?_eq_some_iff.1 q3).1
  obtain⟨bb,hbb,x1,x2,x3,x4⟩:=h4.fld (i:=st.iA id) (by rw[List.length_map];exact hlt)
  have hB:bb<m.next:=by subst hbb;exact h4.lt
  rw[List.length_map]at x1 x2
  subst x1
  have q5:st.q0n[st.iA id]? = some a:=q3
  have ha:st.q0n[st.iA id]=a:=by have q6:=q5;rw[List.getElem?_eq_getElem hlt]at q6;simpa using q6
  have x5:=x3 1 (by omega)
  have x6:=x4 2 2 (by omega)
  rw[List.getElem_map,ha]at x5 x6
  have hkp':=hkp
  rw[hpn]at hkp
  have gp:=gpp a.coin
  rw[z8g w hkp]at gp
  obtain⟨p',p1,p2,p3,p4⟩:=LSt.q2v hkp
  rw[g2]at p1
  cases p1
  have hlt2:st.iP a.coin<st.q0b.length:=(List.getElem?_eq_some_iff.1 p3).1
  obtain⟨bc,hbc,y1,y2,y3,y4⟩:=h2.fld (i:=st.iP a.coin) (by rw[List.length_map];exact hlt2)
  have hC:bc<m.next:=by subst hbc;exact h2.lt
  rw[List.length_map]at y1 y2
  subst y1
  have p5:st.q0b[st.iP a.coin]? = some p:=p3
  have hp:st.q0b[st.iP a.coin]=p:=by have p6:=p5;rw[List.getElem?_eq_getElem hlt2]at p6;simpa using p6
  have y6:=y4 2 2 (by omega)
  rw[List.getElem_map,hp]at y6
  simp only[ge,AccV.cells,PurseV.cells,List.drop_succ_cons,List.drop_zero,List.take_succ_cons,List.take_zero]at x5 x6 y6
  have ft:=rf_at (H:=H22) rfl h w g2 hx s
  obtain⟨fe,hfe⟩:∃fe,fe=q3b p x s:=⟨_,rfl⟩
  simp only[←hfe,q02,ne_eq,not_true_eq_false,if_false]at ft⊢
  by_cases f0:fe=0
  ·subst f0
   rw[if_neg (by simp)]
   have ad:=fun m=>q9i (H:=H22) rfl (w.oka a ma).1 hx m
   have su:=fun m=>q9m (H:=H22) rfl (w.okp p mp).2.2.1 hx m
   simp only[Wd.cells]at ad su
   have c1:=q4t (n:=p.out.val-x.val)
   have c2:=q4t (n:=a.bal.val+x.val)
   unfold q4r
   cases e1:q1c (a.bal.val+x.val) with
   |false=>
    rw[e1]at c2
    rw[Bool.and_false,if_neg (by simp)]
    simp (maxDischargeDepth:=20) only [z98 (H:=H22) rfl,T.f29,q1h,q0a,w_f29,AV.one,AV.cells,lcl,ga,frl,Fr.refl,df (show ¬((st.iA id:Nat):Int)<0 by omega)]
    simp (maxDischargeDepth:=20) only [z1d (H:=H22),T.g29_0,p1,q1,nnA,q0a,Nat.reduceAdd,z88,Nat.reduceLeDiff,lcl,q2d hb,a3,true_or,x2,q2d hB,x5,ft,frl,Fr.refl,decide_true,Bool.not_true]
    simp (maxDischargeDepth:=20) only [z6s (H:=H22),T.g29_1,p1,q1,pB,nnA,q0g,q0a,ifV,Nat.reduceAdd,j4w,AV.one,over,AV.cells,Nat.reduceLeDiff,lcl,q2d hb,q8p hb,a3,true_or,x2,q2d hB,x5,x6,gp,frl,Fr.refl,y2,q2d hC,q8p hC,y6,ad,su,c2,Bool.not_false]
    refine done _ ?_ _
    (repeat apply Fr.lays)
    exact Fr.refl _
   |true=>
    rw[e1]at c2
    cases e2:q1c (p.out.val-x.val) with
    |false=>
     rw[e2]at c1
     rw[Bool.false_and,if_neg (by simp)]
     simp (maxDischargeDepth:=20) only [z98 (H:=H22) rfl,T.f29,q1h,q0a,w_f29,AV.one,AV.cells,lcl,ga,frl,Fr.refl,df (show ¬((st.iA id:Nat):Int)<0 by omega)]
     simp (maxDischargeDepth:=20) only [z1d (H:=H22),T.g29_0,p1,q1,nnA,q0a,Nat.reduceAdd,z88,Nat.reduceLeDiff,lcl,q2d hb,a3,true_or,x2,q2d hB,x5,ft,frl,Fr.refl,decide_true,Bool.not_true]
     simp (maxDischargeDepth:=20) only [z6s (H:=H22),T.g29_1,p1,q1,pB,nnA,q0g,q0a,ifV,Nat.reduceAdd,j4w,AV.one,over,AV.cells,Nat.reduceLeDiff,lcl,q2d hb,q8p hb,a3,true_or,x2,q2d hB,x5,x6,gp,frl,Fr.refl,y2,q2d hC,q8p hC,y6,ad,su,c1,c2,Bool.not_false,Bool.not_true]
     refine done _ ?_ _
     (repeat apply Fr.lays)
     exact Fr.refl _
    |true=>
     rw[e2]at c1
     rw[Bool.and_self,if_pos rfl]
     rw[q2b e1]at ad
     rw[q2b e2]at su
     obtain⟨ny,hny⟩:∃ny,ny=Wd.of (a.bal.val+x.val):=⟨_,rfl⟩
     obtain⟨nx,hnx⟩:∃nx,nx=Wd.of (p.out.val-x.val):=⟨_,rfl⟩
     rw[←hny]at ad⊢
     rw[←hnx]at su⊢
     obtain⟨M3,hM3⟩:∃M3,M3=((m.lay (.cells (q02 x s) false)).lay (.cells ny.cells false)).lay (.cells nx.cells false):=⟨_,rfl⟩
     have f3:Fr m M3 []:=by rw[hM3];(repeat apply Fr.lays);exact Fr.refl _
     have hb3:=f3.get h1 (by simp)
     have z1:M3.get (m.next+1)=some (.cells ny.cells false):=by rw[hM3];simp[Mem.q04]
     have z2:M3.get (m.next+1+1)=some (.cells nx.cells false):=by rw[hM3];simp[Mem.q04]
     obtain⟨bb',m4,s1,s2,s3,s4,s5,s6⟩:=(h.q0p f3).stA hb3 (a:=a) (by rw[hid];exact q5) ny
     cases s1
     have hb4:=s6.trans hb3
     obtain⟨bc',m5,t1,t2,t3,t4,t5,t6⟩:=s3.stP hb4 (a:=p) (by rw[hpn];exact p5) nx
     cases t1
     rw[hid]at s2
     have t2':stV m4 (.ptr (some ⟨bc,st.iP a.coin*4+2⟩)) (.agg nx.cells) 2=some m5:=by rw[←hpn];exact t2
     have n3:m.next≤M3.next:=f3.next
     have z4:=s4.get z2 (fun hc=>by have:=hF _ hc;omega)
     have a33:∀i:Nat,ld1 M3 (.ptr (some ⟨b,i⟩))=[.sl (some ⟨bc,0⟩) 4 st.q0b.length st.q0b.length false,sq,.sl (some ⟨bb,0⟩) 4 st.q0n.length st.q0n.length false,.int .u64 st.latest,.int .i64 st.most][i]?:=fun i=>q0j hb3
     have a34:∀i:Nat,ld1 m4 (.ptr (some ⟨b,i⟩))=[.sl (some ⟨bc,0⟩) 4 st.q0b.length st.q0b.length false,sq,.sl (some ⟨bb,0⟩) 4 st.q0n.length st.q0n.length false,.int .u64 st.latest,.int .i64 st.most][i]?:=fun i=>q0j hb4
     have l1:ldN M3 (.ptr (some ⟨m.next+1,0⟩)) 2=some (.agg ny.cells):=q1b z1 rfl
     have l2:ldN m4 (.ptr (some ⟨m.next+1+1,0⟩)) 2=some (.agg nx.cells):=q1b z4 rfl
     refine⟨m5,?_,t3,((f3.any F).step s4 (fun c hc=>.inl hc)).step t4 (fun c hc=>.inl hc)⟩
     simp only[q02,Wd.cells]at hM3 l1 l2 s2 t2'
     simp (maxDischargeDepth:=20) only [z98 (H:=H22) rfl,T.f29,q1h,q0a,w_f29,AV.one,AV.cells,lcl,ga,frl,Fr.refl,df (show ¬((st.iA id:Nat):Int)<0 by omega)]
     simp (maxDischargeDepth:=20) only [z1d (H:=H22),T.g29_0,p1,q1,nnA,q0a,Nat.reduceAdd,z88,Nat.reduceLeDiff,lcl,q2d hb,a3,true_or,x2,q2d hB,x5,ft,frl,Fr.refl,decide_true,Bool.not_true]
     simp (maxDischargeDepth:=20) only [z6s (H:=H22),T.g29_1,p1,q1,pB,nnA,q0g,q0a,ifV,Nat.reduceAdd,j4w,AV.one,over,AV.cells,Nat.reduceLeDiff,lcl,q2d hb,q8p hb,a3,true_or,x2,q2d hB,x5,x6,gp,frl,Fr.refl,y2,q2d hC,q8p hC,y6,ad,su,decide_true,Bool.not_true,←hM3]
     simp only[g29_2_is (H:=H22),T.g29_2,p1,q1,nnA,w_g29_2,a33,l1,true_or,if_true,x2,s2,a34,l2,y2,t2']
  ·rw[if_pos f0]
   simp (maxDischargeDepth:=20) only [z98 (H:=H22) rfl,T.f29,q1h,q0a,w_f29,AV.one,AV.cells,lcl,ga,frl,Fr.refl,df (show ¬((st.iA id:Nat):Int)<0 by omega)]
   simp (maxDischargeDepth:=20) only [z1d (H:=H22),T.g29_0,p1,q1,nnA,q0a,Nat.reduceAdd,z88,Nat.reduceLeDiff,lcl,q2d hb,a3,true_or,x2,q2d hB,x5,ft,frl,Fr.refl,df f0,Bool.not_false]
   exact done _ ((Fr.refl m).lay _) _
end
end
section
set_option maxRecDepth 4000
open Go Go.Abs
section
variable {m:Mem} {b:Nat} {st:LSt} {F:List Nat}
theorem j2c (h:RefAt m b st F) (w:LWf st) (id:Int) {x:Wd} (hx:x.ok) (s:Int) :
  ∃m',run E22 (.fn 31) [.ptr (some ⟨b,0⟩),.int .u64 id,.agg (q02 x s)] m=some (.int .i64 (q46 st id x s).1,m')∧RefAt m' b (q46 st id x s).2 F∧Fr m m' F:=by
 have ga:=j37 (H:=H22) rfl h (by have:=w.la;omega) id
 have gpp:=fun k=>z8i (H:=H22) rfl h (by have:=w.lp;omega) k
 have hF:=h.lt
 obtain⟨sp,sq,sa,rp,rq,ra,h1,h2,h3,h4,h5⟩:=h.ex
 have hb:=Mem.q0w h1
 have a3:∀i:Nat,ld1 m (.ptr (some ⟨b,i⟩))=[sp,sq,sa,.int .u64 st.latest,.int .i64 st.most][i]?:=fun i=>q0j h1
 have done:∀M,Fr m M []→∀v:AV,∃m',some (v,M)=some (v,m')∧RefAt m' b st F∧Fr m m' F:=fun M hM v=>⟨M,rfl,h.q0p hM,hM.any F⟩
 unfold q46
 rcases LSt.q10 w id with ⟨e,hn⟩|⟨a,p,e,g1,g2,hid,hka,hpn,hkp,ma,mp⟩
 ·have hk:q1d q0f id (st.q0n.map (·.id))=false:=by
   cases hk:q1d q0f id (st.q0n.map (·.id)) with
   |false=>rfl
   |true=>obtain⟨a,a1,_⟩:=LSt.q2q hk;rw[hn]at a1;cases a1
  rw[j14 w hk]at ga
  rw[e]
  simp only[ne_eq,show ¬(40:Int)=0 by omega,not_false_eq_true,if_true,q02]
  simp (maxDischargeDepth:=20) only [z99 (H:=H22) rfl,T.f31,p2,q1h,q0a,w_f31,AV.one,AV.cells,lcl,ga,frl,Fr.refl,dt (show (-1:Int)<0 by omega)]
  exact done _ ((Fr.refl m).lay _) _
 ·rw[j4e w hka]at ga
  rw[e]
  obtain⟨a',q1,q2,q3,q4⟩:=LSt.q2q hka
  rw[g1]at q1
  cases q1
  have hlt:st.iA id<st.q0n.length:=(List.getElem?_eq_some_iff.1 q3).1
  obtain⟨bb,hbb,x1,x2,x3,x4⟩:=h4.fld (i:=st.iA id) (by rw[List.length_map];exact hlt)
  have hB:bb<m.next:=by subst hbb;exact h4.lt
  rw[List.length_map]at x1 x2
  subst x1
  have q5:st.q0n[st.iA id]? = some a:=q3
  have ha:st.q0n[st.iA id]=a:=by have q6:=q5;rw[List.getElem?_eq_getElem hlt]at q6;simpa using q6
  have x5:=x3 1 (by omega)
  have x6:=x4 2 2 (by omega)
  rw[List.getElem_map,ha]at x5 x6
  have hkp':=hkp
  rw[hpn]at hkp
  have gp:=gpp a.coin
  rw[z8g w hkp]at gp
  obtain⟨p',p1,p2,p3,p4⟩:=LSt.q2v hkp
  rw[g2]at p1
  cases p1
  have hlt2:st.iP a.coin<st.q0b.length:=(List.getElem?_eq_some_iff.1 p3).1
  obtain⟨bc,hbc,y1,y2,y3,y4⟩:=h2.fld (i:=st.iP a.coin) (by rw[List.length_map];exact hlt2)
  have hC:bc<m.next:=by subst hbc;exact h2.lt
  rw[List.length_map]at y1 y2
  subst y1
  have p5:st.q0b[st.iP a.coin]? = some p:=p3
  have hp:st.q0b[st.iP a.coin]=p:=by have p6:=p5;rw[List.getElem?_eq_getElem hlt2]at p6;simpa using p6
  have y6:=y4 2 2 (by omega)
  rw[List.getElem_map,hp]at y6
  simp only[ge,AccV.cells,PurseV.cells,List.drop_succ_cons,List.drop_zero,List.take_succ_cons,List.take_zero]at x5 x6 y6
  have ft:=rf_at (H:=H22) rfl h w g2 hx s
  obtain⟨fe,hfe⟩:∃fe,fe=q3b p x s:=⟨_,rfl⟩
  simp only[←hfe,q02,ne_eq,not_true_eq_false,if_false]at ft⊢
  by_cases f0:fe=0
  ·subst f0
   rw[if_neg (by simp)]
   have po:=fun m=>z8e (H:=H22) rfl (w.oka a ma).1 hx m
   have hsl:=j2f (a.bal.val-x.val)
   simp only[Wd.cells]at po
   have xpos:0<x.val:=by
    have h1:=hfe
    unfold q3b at h1
    split at h1
    ·omega
    ·split at h1<;>omega
   by_cases hpr:a.bal.val<x.val
   ·rw[if_pos hpr]
    rw[dt (show a.bal.val-x.val<0 by omega)]at hsl
    simp (maxDischargeDepth:=20) only [z99 (H:=H22) rfl,T.f31,q1h,q0a,w_f31,AV.one,AV.cells,lcl,ga,frl,Fr.refl,df (show ¬((st.iA id:Nat):Int)<0 by omega)]
    simp (maxDischargeDepth:=20) only [z1e (H:=H22),T.g31_0,p1,q1,nnA,q0a,Nat.reduceAdd,z9a,Nat.reduceLeDiff,lcl,q2d hb,a3,true_or,x2,q2d hB,x5,ft,frl,Fr.refl,decide_true,Bool.not_true]
    simp (maxDischargeDepth:=20) only [z6t (H:=H22),T.g31_1,p1,q1,nnA,q0a,Nat.reduceAdd,j4x,Nat.reduceLeDiff,lcl,q2d hb,a3,true_or,x2,q2d hB,x5,x6,gp,frl,Fr.refl,po,hsl]
    exact done _ ((Fr.refl m).lay _) _
   ·rw[if_neg hpr]
    rw[df (show ¬a.bal.val-x.val<0 by omega)]at hsl
    have su:=fun m=>q9m (H:=H22) rfl (w.oka a ma).1 hx m
    have ad:=fun m=>q9i (H:=H22) rfl (w.okp p mp).2.2.1 hx m
    have e1:q1c (a.bal.val-x.val)=true:=by
     have h1:=j5a (w.oka a ma).1
     have h2:=Wd.q6h (w.oka a ma).1
     unfold q1c at h2⊢
     simp only[Bool.and_eq_true,decide_eq_true_eq]at h2⊢
     omega
    simp only[Wd.cells]at ad su
    have c2:=q4t (n:=p.out.val+x.val)
    rw[q2b e1]at su
    unfold q4r
    rw[e1,Bool.true_and]
    obtain⟨nx,hnx⟩:∃nx,nx=Wd.of (a.bal.val-x.val):=⟨_,rfl⟩
    rw[←hnx]at su⊢
    cases e2:q1c (p.out.val+x.val) with
    |false=>
     rw[e2]at c2
     rw[if_neg (by simp)]
     simp (maxDischargeDepth:=20) only [z99 (H:=H22) rfl,T.f31,q1h,q0a,w_f31,AV.one,AV.cells,lcl,ga,frl,Fr.refl,df (show ¬((st.iA id:Nat):Int)<0 by omega)]
     simp (maxDischargeDepth:=20) only [z1e (H:=H22),T.g31_0,p1,q1,nnA,q0a,Nat.reduceAdd,z9a,Nat.reduceLeDiff,lcl,q2d hb,a3,true_or,x2,q2d hB,x5,ft,frl,Fr.refl,decide_true,Bool.not_true]
     simp (maxDischargeDepth:=20) only [z6t (H:=H22),T.g31_1,p1,q1,nnA,q0a,Nat.reduceAdd,j4x,Nat.reduceLeDiff,lcl,q2d hb,a3,true_or,x2,q2d hB,x5,x6,gp,frl,Fr.refl,po,hsl]
     simp (maxDischargeDepth:=20) only [j59 (H:=H22),T.g31_2,p1,q1,pB,nnA,q0g,q0a,Nat.reduceAdd,w_g31_2,AV.one,over,AV.cells,Nat.reduceLeDiff,lcl,q2d hb,q8p hb,a3,true_or,x2,q2d hB,x6,y2,q2d hC,q8p hC,y6,ad,su,c2,Bool.not_false]
     refine done _ ?_ _
     (repeat apply Fr.lays)
     exact Fr.refl _
    |true=>
     rw[if_pos rfl]
     rw[q2b e2]at ad
     obtain⟨ny,hny⟩:∃ny,ny=Wd.of (p.out.val+x.val):=⟨_,rfl⟩
     rw[←hny]at ad⊢
     obtain⟨M3,hM3⟩:∃M3,M3=((m.lay (.cells (q02 x s) false)).lay (.cells nx.cells false)).lay (.cells ny.cells false):=⟨_,rfl⟩
     have f3:Fr m M3 []:=by rw[hM3];(repeat apply Fr.lays);exact Fr.refl _
     have hb3:=f3.get h1 (by simp)
     have z1:M3.get (m.next+1)=some (.cells nx.cells false):=by rw[hM3];simp[Mem.q04]
     have z2:M3.get (m.next+1+1)=some (.cells ny.cells false):=by rw[hM3];simp[Mem.q04]
     obtain⟨bb',m4,s1,s2,s3,s4,s5,s6⟩:=(h.q0p f3).stA hb3 (a:=a) (by rw[hid];exact q5) nx
     cases s1
     have hb4:=s6.trans hb3
     obtain⟨bc',m5,t1,t2,t3,t4,t5,t6⟩:=s3.stP hb4 (a:=p) (by rw[hpn];exact p5) ny
     cases t1
     rw[hid]at s2
     have t2':stV m4 (.ptr (some ⟨bc,st.iP a.coin*4+2⟩)) (.agg ny.cells) 2=some m5:=by rw[←hpn];exact t2
     have n3:m.next≤M3.next:=f3.next
     have z4:=s4.get z2 (fun hc=>by have:=hF _ hc;omega)
     have a33:∀i:Nat,ld1 M3 (.ptr (some ⟨b,i⟩))=[.sl (some ⟨bc,0⟩) 4 st.q0b.length st.q0b.length false,sq,.sl (some ⟨bb,0⟩) 4 st.q0n.length st.q0n.length false,.int .u64 st.latest,.int .i64 st.most][i]?:=fun i=>q0j hb3
     have a34:∀i:Nat,ld1 m4 (.ptr (some ⟨b,i⟩))=[.sl (some ⟨bc,0⟩) 4 st.q0b.length st.q0b.length false,sq,.sl (some ⟨bb,0⟩) 4 st.q0n.length st.q0n.length false,.int .u64 st.latest,.int .i64 st.most][i]?:=fun i=>q0j hb4
     have l1:ldN M3 (.ptr (some ⟨m.next+1,0⟩)) 2=some (.agg nx.cells):=q1b z1 rfl
     have l2:ldN m4 (.ptr (some ⟨m.next+1+1,0⟩)) 2=some (.agg ny.cells):=q1b z4 rfl
     refine⟨m5,?_,t3,((f3.any F).step s4 (fun c hc=>.inl hc)).step t4 (fun c hc=>.inl hc)⟩
     simp only[q02,Wd.cells]at hM3 l1 l2 s2 t2'
     simp (maxDischargeDepth:=20) only [z99 (H:=H22) rfl,T.f31,q1h,q0a,w_f31,AV.one,AV.cells,lcl,ga,frl,Fr.refl,df (show ¬((st.iA id:Nat):Int)<0 by omega)]
     simp (maxDischargeDepth:=20) only [z1e (H:=H22),T.g31_0,p1,q1,nnA,q0a,Nat.reduceAdd,z9a,Nat.reduceLeDiff,lcl,q2d hb,a3,true_or,x2,q2d hB,x5,ft,frl,Fr.refl,decide_true,Bool.not_true]
     simp (maxDischargeDepth:=20) only [z6t (H:=H22),T.g31_1,p1,q1,nnA,q0a,Nat.reduceAdd,j4x,Nat.reduceLeDiff,lcl,q2d hb,a3,true_or,x2,q2d hB,x5,x6,gp,frl,Fr.refl,po,hsl]
     simp (maxDischargeDepth:=20) only [j59 (H:=H22),T.g31_2,p1,q1,pB,nnA,q0g,q0a,Nat.reduceAdd,w_g31_2,AV.one,over,AV.cells,Nat.reduceLeDiff,lcl,q2d hb,q8p hb,a3,true_or,x2,q2d hB,x6,y2,q2d hC,q8p hC,y6,ad,su,decide_true,Bool.not_true,←hM3]
     simp only[g31_3_is (H:=H22),T.g31_3,p1,q1,nnA,w_g31_3,a33,l1,true_or,if_true,x2,s2,a34,l2,y2,t2']
  ·rw[if_pos f0]
   simp (maxDischargeDepth:=20) only [z99 (H:=H22) rfl,T.f31,q1h,q0a,w_f31,AV.one,AV.cells,lcl,ga,frl,Fr.refl,df (show ¬((st.iA id:Nat):Int)<0 by omega)]
   simp (maxDischargeDepth:=20) only [z1e (H:=H22),T.g31_0,p1,q1,nnA,q0a,Nat.reduceAdd,z9a,Nat.reduceLeDiff,lcl,q2d hb,a3,true_or,x2,q2d hB,x5,ft,frl,Fr.refl,df f0,Bool.not_false]
   exact done _ ((Fr.refl m).lay _) _
end
end
end Go.Proofs.YtlginbmjiecglaaGreatDoor
