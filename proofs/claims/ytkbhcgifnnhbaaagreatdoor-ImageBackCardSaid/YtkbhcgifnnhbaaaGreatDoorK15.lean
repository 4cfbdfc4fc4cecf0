/- Texts of one claim, put together. -/
import Derived.Test.YtkbhcgifnnhbaaaGreatDoorK14
namespace Go.Abs
open Go
section
section
variable {P:Program} {W:World} {H:Type} {enc:TypeId×Value->H} {t e:TypeId} {v:Value} {m B:Nat}
theorem z7G (ht:P.underlying t=some (.slice e)) (he:0<P.cellsOf e) {y:DataW H×List MemPlace} (h:DataW.trod enc P W 0 (fun _=>true) true m t [v]=some y) :
  (∃ex,absP W v=.sl none 0 0 0 ex)\/
  ∃(a:AA) (len cap n:Nat) (cs:List Value),absP W v=.sl (some a) 0 len cap true/\len<=cap/\(z1e W).get a.b=some (.cells (cs.map (absP W)) true)/\
   (∀i,i<len->((cs.drop (a.o+i*P.cellsOf e)).take (P.cellsOf e)).length=P.cellsOf e/\
    ∃z,DataW.trod enc P W 0 (fun _=>true) true n e ((cs.drop (a.o+i*P.cellsOf e)).take (P.cellsOf e))=some z/\∀k,k∈z.1.weights P e->k∈y.1.weights P t)/\a.o<=cs.length/\∃k,k∈y.1.weights P t/\len*P.bytesOf e<=k:=by
 rcases Go.Deep.open_slice ht h with ⟨h6,_⟩|⟨a,len,cap,mm,n',D,Pl,h6,_,hlc,_,h7,hd,h8⟩
 ·simp only[xDj,xFb]at h6;subst h6;exact .inl ⟨_,rfl⟩
 ·simp only[xDj,xFb]at h6;subst h6;simp only[xAd]at h7;by_cases h0:cap=0
  ·subst h0;have:len=0:=by omega
   subst this;exact .inl ⟨_,rfl⟩
  ·right;obtain⟨c0,g1,_⟩:=h8 0 (by omega);obtain⟨_,g2,g3⟩:=World.cells?_some g1;have g4:=g3 0 he;rw[xFd]at g4;have ea:(a.add 0).add 0=a:=rfl;rw[ea,xgq (by omega)]at g4;unfold World.cell? at g4;split at g4
   ·rename_i c el fr hc;split at g4
    ·cases g4
    ·rename_i hs;have hsp:a.spot=none:=by cases hq:a.spot with|none=>rfl|some _=>rw[hq]at hs;simp at hs
     have hoff:a.off<c.size:=(xBb.1 g4).1;refine⟨⟨a.block,a.off⟩,len,cap,n',c.toList,?_,hlc,?_,fun i hi=>?_,?_,(len+(mm-len))*P.bytesOf e,?_,xAo _ (by omega)⟩
     ·simp[absP,h0,hsp,isCells,hc,hlc]
     ·rw[q5w,q5X,hc]
     ·obtain⟨cs',h9,h10⟩:=h8 i (by omega);obtain⟨_,h11,h12⟩:=World.cells?_some h9;have hcs:(c.toList.drop (a.off+i*P.cellsOf e)).take (P.cellsOf e)=cs':=by
       apply xCv;intro j;rw[xBw,xBu];split
       ·rename_i hj;rw[<-h12 j hj];rw[q75 hsp,q75 rfl];simp[World.cell?,hc]
       ·rw[xAu (by omega)]
      simp only;rw[hcs];refine⟨h11,_,h10,?_⟩;subst hd;exact z2H ht (xBr.2 ⟨i,xDe.2 hi,rfl⟩)
     ·simp only[Array.length_toList];omega
     ·subst hd;simp[DataW.weights,ht]
   ·cases g4
theorem z6c {α:Type} [Inhabited α] {f:α->List AV} {Q:α->Prop} {n:Nat} (hn0:0<n) (ht:P.underlying t=some (.slice e)) (hn:P.cellsOf e=n) {y:DataW H×List MemPlace} (h:DataW.trod enc P W 0 (fun _=>true) true m t [v]=some y)
  (hB:∀k,k∈y.1.weights P t->k<=B)
  (hel:∀(m:Nat) (cs:List Value) (y:DataW H×List MemPlace),cs.length=n->DataW.trod enc P W 0 (fun _=>true) true m e cs=some y->(∀k,k∈y.1.weights P e->k<=B)->∃a,cs.map (absP W)=f a/\Q a) (hf:∀a,Q a->(f a).length=n/\(f a).all AV.one=true) :
  ∃l:List α,q2H n (z1e W) (absP W v) (l.map f)/\(∀a∈l,Q a)/\l.length*P.bytesOf e<=B:=by
 rcases z7G ht (by omega) h with ⟨ex,h⟩|⟨a,len,cap,m',cs,h1,h2,h3,h4,ho,k,hk1,hk2⟩
 ·exact⟨[],⟨by simp,.inl ⟨rfl,_,_,_,h⟩⟩,by simp,by simp⟩
 ·rw[hn]at h4;have h5:∀i,i<len->∃x,((cs.drop (a.o+i*n)).take n).map (absP W)=f x/\Q x:=fun i hi=>by
   obtain⟨h6,y,h7,h8⟩:=h4 i hi;exact hel _ _ y h6 h7 fun k hk=>hB k (h8 k hk)
  obtain⟨g,hg⟩:=Go.Deep.choose_lt h5;refine⟨(List.range len).map g,⟨fun x hx=>?_,.inr ⟨a.b,a.o,0,cap,true,true,cs.map (absP W),?_,.inr rfl,h3,?_,?_⟩⟩,fun x hx=>?_,by rw[xlm,xFl];exact xnt0 hk2 (hB k hk1)⟩
  ·obtain⟨y,hy,rfl⟩:=xBr.1 hx;obtain⟨i,hi,rfl⟩:=xBr.1 hy;exact hf _ (hg i (xDe.1 hi)).2
  ·simpa using h1
  ·by_cases h0:len=0
   ·subst h0;simpa using ho
   have h6:=(h4 (len-1) (by omega)).1;simp only[xlt0,xld0]at h6;simp only[xlm,xFl];have e:len*n=(len-1)*n+n:=by rw[<-xCi];congr 1;omega
   omega
  ·rw[xlm,xlm,xFl,List.map_map];have:=z7w (cs:=cs.map (absP W)) (o:=a.o) (n:=n) (fun i=>f (g i)) len fun i hi=>by
    rw[<-List.map_drop,<-List.map_take];exact(hg i hi).1
   exact this
  ·obtain⟨i,hi,rfl⟩:=xBr.1 hx;exact(hg i (xDe.1 hi)).2
theorem b2U {base:Nat} {p:List MemPlace} {d:DataW H} (ht:P.underlying t=some (.slice e)) (hk:Value.okWide P W .any base t v) (h:DataW.Trod enc P W 0 (fun _=>true) true t v d p):∃m,DataW.trod enc P W 0 (fun _=>true) true m t [v]=some (d,p)/\j0D W v=absP W v:=by
 obtain⟨m,h⟩:=h;have hc1:v.cells=#[v]/\j0D W v=absP W v:=by
  unfold Value.okWide at hk;simp only[ht]at hk;unfold Cell.okWide at hk;simp only[ht]at hk;unfold Cell.ok at hk;simp only[ht]at hk;cases v<;>first|exact False.elim hk|exact⟨rfl,rfl⟩
 exact⟨m,by rw[hc1.1]at h;exact h,hc1.2⟩
end
abbrev u8 (l:List UInt8):List AV:=l.map fun c=>AV.int .u8 c.toNat
end
section
theorem b8c (n:Nat) (h:n<2 ^ 8):UInt8.ofBitVec (BitVec.ofFin ⟨n,h⟩)=UInt8.ofNat n:=by
 apply UInt8.toNat_inj.1;show n=(UInt8.ofNat n).toNat;rw[UInt8.toNat_ofNat'];exact(xDx h).symm
noncomputable def gsN:List (Nat×(List AV->CM))->Nat->List AV->CM
 |[],_=>fun _=>.fail
 |x::_,0=>x.2
 | _::l,n+1=>gsN l n
section
variable (x0 x1 x2 x3 x4 x5 x6 x7 x8 x9:Nat×(List AV->CM)) (l:List (Nat×(List AV->CM)))
theorem q0K:gsN (x0::l) 0=x0.2:=rfl
theorem q1c:gsN (x0::x1::l) 1=x1.2:=rfl
theorem q1n:gsN (x0::x1::x2::l) 2=x2.2:=rfl
theorem q1V:gsN (x0::x1::x2::x3::l) 3=x3.2:=rfl
theorem q4j:gsN (x0::x1::x2::x3::x4::l) 4=x4.2:=rfl
theorem q6P:gsN (x0::x1::x2::x3::x4::x5::l) 5=x5.2:=rfl
theorem z0b:gsN (x0::x1::x2::x3::x4::x5::x6::l) 6=x6.2:=rfl
theorem j0T:gsN (x0::x1::x2::x3::x4::x5::x6::x7::l) 7=x7.2:=rfl
theorem j6R:gsN (x0::x1::x2::x3::x4::x5::x6::x7::x8::l) 8=x8.2:=rfl
theorem b4u:gsN (x0::x1::x2::x3::x4::x5::x6::x7::x8::x9::l) 9=x9.2:=rfl
theorem b4r (x10:Nat×(List AV->CM)):gsN (x0::x1::x2::x3::x4::x5::x6::x7::x8::x9::x10::l) 10=x10.2:=rfl
theorem b4s (x10 x11:Nat×(List AV->CM)):gsN (x0::x1::x2::x3::x4::x5::x6::x7::x8::x9::x10::x11::l) 11=x11.2:=rfl
theorem b4t (x10 x11 x12:Nat×(List AV->CM)):gsN (x0::x1::x2::x3::x4::x5::x6::x7::x8::x9::x10::x11::x12::l) 12=x12.2:=rfl
end
end
end Go.Abs
namespace Go.Proofs.YtkbhcgifnnhbaaaGreatDoor
open Go Go.Abs
set_option maxRecDepth 20000
set_option maxHeartbeats 4000000
section
noncomputable abbrev Ea (H:FuncId->Option (List AV->Mem->R)):Env:=EX TP U.B H
noncomputable abbrev Da (H:FuncId->Option (List AV->Mem->R)):Do:=real (Ea H) (Mq (Ea H)) (Nq (Ea H))
theorem q4b {H:FuncId->Option (List AV->Mem->R)} (t:Tg) (xs:List AV) (m:Mem):(Da H).call t xs m=run (Ea H) t xs m:=rfl
theorem b8b {H:FuncId->Option (List AV->Mem->R)} (e:En TP U.B) (hc:q93 e=true) (hd:j8X e.rs=false) (h:H e.f=none) (xs:List AV) (m:Mem) (hn:e.t.fn xs≠.fail):run (Ea H) (.fn e.f) xs m=q0a (Da H) (e.t.fn xs) m:=by
 have hr:q8s (Ea H) e.f=e.rs:=by unfold q8s;rw[show (Ea H).B e.f=_ from e.hB]
 exact(((e.ok hc H).fn h (by rw[hr];exact hd)) xs m).resolve_right hn
theorem b8a {H:FuncId->Option (List AV->Mem->R)} (e:En TP U.B) (hc:q93 e=true) (k:Nat) (D:List AV->CM) (hD:q72 k e.t.gs=some D) (xs:List AV) (m:Mem) (hn:D xs≠.fail):(Da H).gor k xs m=q0a (Da H) (D xs) m:=
 (((e.ok hc H).gs _ (q5e hD)) xs m).resolve_right hn
theorem q0w {H:FuncId->Option (List AV->Mem->R)} {f:FuncId} {E:Env} (h:H f=some (q0B E f)) {args:List AV} {m:Mem} {v:AV} (hv:v.flat) (hr:∀m2:Mem,m.next<=m2.next->(∀b,m2.get b=m.get b)->Res m2 (run E (.fn f) args m2) v):run (Ea H) (.fn f) args m=some (v,m):=(q1x h args m).trans (j35 hv hr)
theorem b8O (p:AV) (m:Mem):q1H TP 29 p m=ldN m p 4:=by kernel_rfl
theorem b9y (a:AA) (sz n c:Nat) (e:Bool) (m:Mem):q7V TP 34 (.sl (some a) sz n c e) m=((q0C m a n).bind q41).map AV.str:=by kernel_rfl
theorem b7Y (a:Option AA) (sz n c:Nat) (e:Bool):q2e TP 34 (.sl a sz n c e)=some (.int .i64 n):=by kernel_rfl
theorem b8q (ps:List (Nat×AV)):q11 TP 29 ps=(q0p (fun i=>([(0,1),(1,1),(2,1),(3,1)]:List (Nat×Nat))[i]?) [.sl none 0 0 0 true,.sl none 0 0 0 true,.sl none 0 0 0 true,.int .u64 0] ps).map AV.agg:=by kernel_rfl
theorem b7U (a:Option AA) (sz n c:Nat) (e:Bool):q2e TP 23 (.sl a sz n c e)=some (.int .i64 n):=by kernel_rfl
theorem b4k (b o:Nat):q0o TP 71 (.ptr (some ⟨b,o⟩)) 0=some (.ptr (some ⟨b,o+0⟩)):=by kernel_rfl
theorem b8Q (p:AV) (m:Mem):q1H TP 35 p m=ld1 m p:=by kernel_rfl
theorem b8N (p:AV) (m:Mem):q1H TP 27 p m=ld1 m p:=by kernel_rfl
theorem b8T (p:AV) (m:Mem):q1H TP 71 p m=ldN m p 5:=by kernel_rfl
theorem ld3 (p:AV) (m:Mem):q1H TP 3 p m=ld1 m p:=by kernel_rfl
theorem b8P (p:AV) (m:Mem):q1H TP 34 p m=ld1 m p:=by kernel_rfl
theorem bn4 (x y:Bool):q0E TP .neq 4 (.bool x) (.bool y)=some (.bool (!(x==y))):=by kernel_rfl
theorem b4n (b o:Nat):q0o TP 82 (.ptr (some ⟨b,o⟩)) 0=some (.ptr (some ⟨b,o+0⟩)):=by kernel_rfl
theorem b8J (p:AV) (m:Mem):q1H TP 23 p m=ld1 m p:=by kernel_rfl
theorem b8H (a:AA) (sz n c:Nat) (e:Bool) (k:IntKind) (i:Int):q0A TP 34 (.sl (some a) sz n c e) (.int k i)=if 1=sz\/e=true then ixA 1 n a i else none:=by kernel_rfl
theorem ld4 (p:AV) (m:Mem):q1H TP 4 p m=ld1 m p:=by kernel_rfl
theorem be4 (x y:Bool):q0E TP .eql 4 (.bool x) (.bool y)=some (.bool ((x==y))):=by kernel_rfl
theorem b0b (b o:Nat):q0o TP 141 (.ptr (some ⟨b,o⟩)) 3=some (.ptr (some ⟨b,o+3⟩)):=by kernel_rfl
theorem b7E (p:AV) (m:Mem):q1H TP 139 p m=ld1 m p:=by kernel_rfl
theorem b7M (p:AV) (m:Mem):q1H TP 174 p m=ld1 m p:=by kernel_rfl
theorem b0d (b o:Nat):q0o TP 143 (.ptr (some ⟨b,o⟩)) 1=some (.ptr (some ⟨b,o+1⟩)):=by kernel_rfl
theorem b0q (b o:Nat):q0o TP 178 (.ptr (some ⟨b,o⟩)) 1=some (.ptr (some ⟨b,o+1⟩)):=by kernel_rfl
theorem b7G (p:AV) (m:Mem):q1H TP 143 p m=ldN m p 6:=by kernel_rfl
theorem b0p (b o:Nat):q0o TP 178 (.ptr (some ⟨b,o⟩)) 0=some (.ptr (some ⟨b,o+0⟩)):=by kernel_rfl
theorem b7N (p:AV) (m:Mem):q1H TP 175 p m=ld1 m p:=by kernel_rfl
theorem b62 (ps:List (Nat×AV)):q11 TP 143 ps=(q0p (fun i=>([(0,1),(1,5)]:List (Nat×Nat))[i]?) [.int .u64 0,.int .i64 0,.int .u64 0,.int .i64 0,.int .u64 0,.int .i64 0] ps).map AV.agg:=by kernel_rfl
theorem ld5 (p:AV) (m:Mem):q1H TP 5 p m=ld1 m p:=by kernel_rfl
theorem b3G (k:IntKind) (n:Int):q56 TP 5 27 (.int k n)=some (.int .u64 (IntKind.wrap .u64 n)):=by kernel_rfl
theorem a8E (k:IntKind) (n:Int):q56 TP 3 186 (.int k n)=some (.int .u64 (IntKind.wrap .u64 n)):=by kernel_rfl
theorem b3F (k:IntKind) (n:Int):q56 TP 3 27 (.int k n)=some (.int .u64 (IntKind.wrap .u64 n)):=by kernel_rfl
theorem b3B (k:IntKind) (n:Int):q56 TP 27 3 (.int k n)=some (.int .i64 (IntKind.wrap .i64 n)):=by kernel_rfl
theorem b8Y (a:AA) (sz n c:Nat) (e:Bool) (lo hi:Option AV):q0n TP 34 (.sl (some a) sz n c e) lo hi=(match hiA hi n c with|some h=>(match loA lo h with|some l=>if 1=sz\/e=true then some (.sl (some ⟨a.b,a.o+l*1⟩) 1 (h-l) (c-l) e) else none|none=>none)|none=>none):=by kernel_rfl
theorem b8R (p:AV) (m:Mem):q1H TP 63 p m=ldN m p 2:=by kernel_rfl
theorem b8r (ps:List (Nat×AV)):q11 TP 63 ps=(q0p (fun i=>([(0,1),(1,1)]:List (Nat×Nat))[i]?) [.int .i64 0,.int .u64 0] ps).map AV.agg:=by kernel_rfl
theorem b4l (b o:Nat):q0o TP 71 (.ptr (some ⟨b,o⟩)) 1=some (.ptr (some ⟨b,o+1⟩)):=by kernel_rfl
theorem b4m (b o:Nat):q0o TP 71 (.ptr (some ⟨b,o⟩)) 2=some (.ptr (some ⟨b,o+2⟩)):=by kernel_rfl
theorem b8t (ps:List (Nat×AV)):q11 TP 71 ps=(q0p (fun i=>([(0,1),(1,1),(2,3)]:List (Nat×Nat))[i]?) [.int .i64 0,.int .u64 0,.int .i64 0,.int .u64 0,.int .i64 0] ps).map AV.agg:=by kernel_rfl
theorem b3H (k:IntKind) (n:Int):q56 TP 5 35 (.int k n)=some (.int .i64 (IntKind.wrap .i64 n)):=by kernel_rfl
theorem b8U (s:List UInt8):q2e TP 9 (.str s)=some (.int .i64 s.length):=by kernel_rfl
theorem iv9 (s:List UInt8) (k:IntKind) (n:Int):z0J TP 9 (.str s) (.int k n)=if 0<=n then (match s[n.toNat]? with|some c=>some (.int .u8 c.toNat)|none=>none) else none:=by kernel_rfl
theorem b8S (p:AV) (m:Mem):q1H TP 65 p m=ldN m p 3:=by kernel_rfl
theorem b8s (ps:List (Nat×AV)):q11 TP 65 ps=(q0p (fun i=>([(0,2),(2,1)]:List (Nat×Nat))[i]?) [.int .i64 0,.int .u64 0,.int .i64 0] ps).map AV.agg:=by kernel_rfl
theorem b7o (k:IntKind) (n:Int):q56 TP 5 3 (.int k n)=some (.int .i64 (IntKind.wrap .i64 n)):=by kernel_rfl
theorem b4j (b o:Nat):q0o TP 65 (.ptr (some ⟨b,o⟩)) 1=some (.ptr (some ⟨b,o+2⟩)):=by kernel_rfl
theorem ld9 (p:AV) (m:Mem):q1H TP 9 p m=ld1 m p:=by kernel_rfl
theorem a98 (b o:Nat):q0o TP 141 (.ptr (some ⟨b,o⟩)) 0=some (.ptr (some ⟨b,o+0⟩)):=by kernel_rfl
theorem b8D (a:AA) (sz n c:Nat) (e:Bool) (k:IntKind) (i:Int):q0A TP 23 (.sl (some a) sz n c e) (.int k i)=if 4=sz\/e=true then ixA 4 n a i else none:=by kernel_rfl
theorem b4c (b o:Nat):q0o TP 29 (.ptr (some ⟨b,o⟩)) 0=some (.ptr (some ⟨b,o+0⟩)):=by kernel_rfl
theorem b0g (b o:Nat):q0o TP 153 (.ptr (some ⟨b,o⟩)) 2=some (.ptr (some ⟨b,o+2⟩)):=by kernel_rfl
theorem b0f (b o:Nat):q0o TP 153 (.ptr (some ⟨b,o⟩)) 1=some (.ptr (some ⟨b,o+1⟩)):=by kernel_rfl
theorem b8K (p:AV) (m:Mem):q1H TP 24 p m=ld1 m p:=by kernel_rfl
theorem b8E (a:AA) (sz n c:Nat) (e:Bool) (k:IntKind) (i:Int):q0A TP 24 (.sl (some a) sz n c e) (.int k i)=if 4=sz\/e=true then ixA 4 n a i else none:=by kernel_rfl
theorem b4d (b o:Nat):q0o TP 29 (.ptr (some ⟨b,o⟩)) 1=some (.ptr (some ⟨b,o+1⟩)):=by kernel_rfl
theorem b0k (b o:Nat):q0o TP 158 (.ptr (some ⟨b,o⟩)) 3=some (.ptr (some ⟨b,o+5⟩)):=by kernel_rfl
theorem b8L (p:AV) (m:Mem):q1H TP 25 p m=ld1 m p:=by kernel_rfl
theorem b8F (a:AA) (sz n c:Nat) (e:Bool) (k:IntKind) (i:Int):q0A TP 25 (.sl (some a) sz n c e) (.int k i)=if 9=sz\/e=true then ixA 9 n a i else none:=by kernel_rfl
theorem b7F (p:AV) (m:Mem):q1H TP 141 p m=ldN m p 4:=by kernel_rfl
theorem b63 (ps:List (Nat×AV)):q11 TP 153 ps=(q0p (fun i=>([(0,1),(1,1),(2,2)]:List (Nat×Nat))[i]?) [.str [],.int .i64 0,.int .i64 0,.int .u64 0] ps).map AV.agg:=by kernel_rfl
theorem b65 (ps:List (Nat×AV)):q11 TP 162 ps=(q0p (fun i=>([(0,1),(1,1),(2,2)]:List (Nat×Nat))[i]?) [.int .u64 0,.str [],.int .i64 0,.int .u64 0] ps).map AV.agg:=by kernel_rfl
theorem b0o (b o:Nat):q0o TP 162 (.ptr (some ⟨b,o⟩)) 2=some (.ptr (some ⟨b,o+2⟩)):=by kernel_rfl
theorem b4i (b o:Nat):q0o TP 65 (.ptr (some ⟨b,o⟩)) 0=some (.ptr (some ⟨b,o+0⟩)):=by kernel_rfl
theorem b0e (b o:Nat):q0o TP 153 (.ptr (some ⟨b,o⟩)) 0=some (.ptr (some ⟨b,o+0⟩)):=by kernel_rfl
theorem b7L (p:AV) (m:Mem):q1H TP 162 p m=ldN m p 4:=by kernel_rfl
theorem b7J (p:AV) (m:Mem):q1H TP 153 p m=ldN m p 4:=by kernel_rfl
theorem b0h (b o:Nat):q0o TP 158 (.ptr (some ⟨b,o⟩)) 0=some (.ptr (some ⟨b,o+0⟩)):=by kernel_rfl
theorem b0i (b o:Nat):q0o TP 158 (.ptr (some ⟨b,o⟩)) 1=some (.ptr (some ⟨b,o+1⟩)):=by kernel_rfl
theorem b0j (b o:Nat):q0o TP 158 (.ptr (some ⟨b,o⟩)) 2=some (.ptr (some ⟨b,o+2⟩)):=by kernel_rfl
theorem b7K (p:AV) (m:Mem):q1H TP 158 p m=ldN m p 9:=by kernel_rfl
theorem b0l (b o:Nat):q0o TP 158 (.ptr (some ⟨b,o⟩)) 4=some (.ptr (some ⟨b,o+7⟩)):=by kernel_rfl
theorem b7z (a:AA) (k:IntKind) (i:Int):q0A TP 207 (.ptr (some a)) (.int k i)=ixA 1 16 a i:=by kernel_rfl
theorem b7O (p:AV) (m:Mem):q1H TP 207 p m=ldN m p 16:=by kernel_rfl
theorem b8M (p:AV) (m:Mem):q1H TP 26 p m=ld1 m p:=by kernel_rfl
theorem b8G (a:AA) (sz n c:Nat) (e:Bool) (k:IntKind) (i:Int):q0A TP 26 (.sl (some a) sz n c e) (.int k i)=if 4=sz\/e=true then ixA 4 n a i else none:=by kernel_rfl
theorem b7P (p:AV) (m:Mem):q1H TP 209 p m=ldN m p 17:=by kernel_rfl
theorem b0r (b o:Nat):q0o TP 209 (.ptr (some ⟨b,o⟩)) 0=some (.ptr (some ⟨b,o+0⟩)):=by kernel_rfl
theorem b0s (b o:Nat):q0o TP 209 (.ptr (some ⟨b,o⟩)) 1=some (.ptr (some ⟨b,o+1⟩)):=by kernel_rfl
theorem b67 (ps:List (Nat×AV)):q11 TP 209 ps=(q0p (fun i=>([(0,1),(1,16)]:List (Nat×Nat))[i]?) [.bool false,.int .u64 0,.int .u64 0,.int .u64 0,.int .u64 0,.int .u64 0,.int .u64 0,.int .u64 0,.int .u64 0,.int .u64 0,.int .u64 0,.int .u64 0,.int .u64 0,.int .u64 0,.int .u64 0,.int .u64 0,.int .u64 0] ps).map AV.agg:=by kernel_rfl
theorem b7V (a:Option AA) (sz n c:Nat) (e:Bool):q2e TP 24 (.sl a sz n c e)=some (.int .i64 n):=by kernel_rfl
theorem b4g (b o:Nat):q0o TP 63 (.ptr (some ⟨b,o⟩)) 0=some (.ptr (some ⟨b,o+0⟩)):=by kernel_rfl
theorem b4h (b o:Nat):q0o TP 63 (.ptr (some ⟨b,o⟩)) 1=some (.ptr (some ⟨b,o+1⟩)):=by kernel_rfl
theorem ld2 (p:AV) (m:Mem):q1H TP 2 p m=ld1 m p:=by kernel_rfl
theorem b0x (b o:Nat):q0o TP 324 (.ptr (some ⟨b,o⟩)) 0=some (.ptr (some ⟨b,o+0⟩)):=by kernel_rfl
theorem b0y (b o:Nat):q0o TP 324 (.ptr (some ⟨b,o⟩)) 1=some (.ptr (some ⟨b,o+2⟩)):=by kernel_rfl
theorem b0u (b o:Nat):q0o TP 250 (.ptr (some ⟨b,o⟩)) 0=some (.ptr (some ⟨b,o+0⟩)):=by kernel_rfl
theorem b0v (b o:Nat):q0o TP 250 (.ptr (some ⟨b,o⟩)) 1=some (.ptr (some ⟨b,o+1⟩)):=by kernel_rfl
theorem b0w (b o:Nat):q0o TP 250 (.ptr (some ⟨b,o⟩)) 2=some (.ptr (some ⟨b,o+2⟩)):=by kernel_rfl
theorem b3A (k:IntKind) (n:Int):q56 TP 27 2 (.int k n)=some (.int .i64 (IntKind.wrap .i64 n)):=by kernel_rfl
theorem b7Q (p:AV) (m:Mem):q1H TP 250 p m=ldN m p 3:=by kernel_rfl
theorem b0n (b o:Nat):q0o TP 162 (.ptr (some ⟨b,o⟩)) 1=some (.ptr (some ⟨b,o+1⟩)):=by kernel_rfl
theorem b0m (b o:Nat):q0o TP 162 (.ptr (some ⟨b,o⟩)) 0=some (.ptr (some ⟨b,o+0⟩)):=by kernel_rfl
theorem b3D (k:IntKind) (n:Int):q56 TP 2 27 (.int k n)=some (.int .u64 (IntKind.wrap .u64 n)):=by kernel_rfl
theorem b7W (a:Option AA) (sz n c:Nat) (e:Bool):q2e TP 25 (.sl a sz n c e)=some (.int .i64 n):=by kernel_rfl
theorem b7X (a:Option AA) (sz n c:Nat) (e:Bool):q2e TP 26 (.sl a sz n c e)=some (.int .i64 n):=by kernel_rfl
theorem b7R (p:AV) (m:Mem):q1H TP 403 p m=ldN m p 4:=by kernel_rfl
theorem b7A (a:AA) (k:IntKind) (i:Int):q0A TP 403 (.ptr (some a)) (.int k i)=ixA 1 4 a i:=by kernel_rfl
theorem b8W (a:AA) (sz n c:Nat) (e:Bool) (lo hi:Option AV):q0n TP 24 (.sl (some a) sz n c e) lo hi=(match hiA hi n c with|some h=>(match loA lo h with|some l=>if 4=sz\/e=true then some (.sl (some ⟨a.b,a.o+l*4⟩) 4 (h-l) (c-l) e) else none|none=>none)|none=>none):=by kernel_rfl
theorem b8X (a:AA) (sz n c:Nat) (e:Bool) (lo hi:Option AV):q0n TP 25 (.sl (some a) sz n c e) lo hi=(match hiA hi n c with|some h=>(match loA lo h with|some l=>if 9=sz\/e=true then some (.sl (some ⟨a.b,a.o+l*9⟩) 9 (h-l) (c-l) e) else none|none=>none)|none=>none):=by kernel_rfl
theorem b7S (p:AV) (m:Mem):q1H TP 421 p m=ld1 m p:=by kernel_rfl
theorem b3C (k:IntKind) (n:Int):q56 TP 27 5 (.int k n)=some (.int .u8 (IntKind.wrap .u8 n)):=by kernel_rfl
theorem b7T (a:Option AA) (sz n c:Nat) (e:Bool):q2e TP 22 (.sl a sz n c e)=some (.int .i64 n):=by kernel_rfl
theorem a95 (b o:Nat):q0o TP 127 (.ptr (some ⟨b,o⟩)) 1=some (.ptr (some ⟨b,o+1⟩)):=by kernel_rfl
theorem a96 (b o:Nat):q0o TP 127 (.ptr (some ⟨b,o⟩)) 2=some (.ptr (some ⟨b,o+2⟩)):=by kernel_rfl
theorem a94 (b o:Nat):q0o TP 127 (.ptr (some ⟨b,o⟩)) 0=some (.ptr (some ⟨b,o+0⟩)):=by kernel_rfl
theorem a97 (b o:Nat):q0o TP 127 (.ptr (some ⟨b,o⟩)) 3=some (.ptr (some ⟨b,o+3⟩)):=by kernel_rfl
theorem b7D (p:AV) (m:Mem):q1H TP 127 p m=ldN m p 4:=by kernel_rfl
theorem b8C (a:AA) (sz n c:Nat) (e:Bool) (k:IntKind) (i:Int):q0A TP 22 (.sl (some a) sz n c e) (.int k i)=if 4=sz\/e=true then ixA 4 n a i else none:=by kernel_rfl
theorem b7w (a:AA) (k:IntKind) (i:Int):q0A TP 129 (.ptr (some a)) (.int k i)=ixA 1 3 a i:=by kernel_rfl
theorem b8u (ps:List (Nat×AV)):q11 TP 82 ps=(q0p (fun i=>([(0,4),(4,1)]:List (Nat×Nat))[i]?) [.sl none 0 0 0 true,.sl none 0 0 0 true,.sl none 0 0 0 true,.int .u64 0,.int .i64 0] ps).map AV.agg:=by kernel_rfl
theorem a99 (b o:Nat):q0o TP 141 (.ptr (some ⟨b,o⟩)) 1=some (.ptr (some ⟨b,o+1⟩)):=by kernel_rfl
theorem b0a (b o:Nat):q0o TP 141 (.ptr (some ⟨b,o⟩)) 2=some (.ptr (some ⟨b,o+2⟩)):=by kernel_rfl
theorem b61 (ps:List (Nat×AV)):q11 TP 141 ps=(q0p (fun i=>([(0,1),(1,1),(2,1),(3,1)]:List (Nat×Nat))[i]?) [.int .u64 0,.int .u64 0,.int .u64 0,.sl none 0 0 0 true] ps).map AV.agg:=by kernel_rfl
theorem b4e (b o:Nat):q0o TP 29 (.ptr (some ⟨b,o⟩)) 2=some (.ptr (some ⟨b,o+2⟩)):=by kernel_rfl
theorem b4f (b o:Nat):q0o TP 29 (.ptr (some ⟨b,o⟩)) 3=some (.ptr (some ⟨b,o+3⟩)):=by kernel_rfl
theorem b7H (p:AV) (m:Mem):q1H TP 146 p m=ld1 m p:=by kernel_rfl
theorem b7n (k:IntKind) (n:Int):q56 TP 3 5 (.int k n)=some (.int .u8 (IntKind.wrap .u8 n)):=by kernel_rfl
theorem b4L (a:Option AA) (sz n c:Nat) (e:Bool):q2e TP 139 (.sl a sz n c e)=some (.int .i64 n):=by kernel_rfl
theorem b0c (b o:Nat):q0o TP 143 (.ptr (some ⟨b,o⟩)) 0=some (.ptr (some ⟨b,o+0⟩)):=by kernel_rfl
theorem b7x (a:AA) (sz n c:Nat) (e:Bool) (k:IntKind) (i:Int):q0A TP 139 (.sl (some a) sz n c e) (.int k i)=if 6=sz\/e=true then ixA 6 n a i else none:=by kernel_rfl
theorem b66 (ps:List (Nat×AV)):q11 TP 178 ps=(q0p (fun i=>([(0,1),(1,1)]:List (Nat×Nat))[i]?) [.ptr none,.int .i64 0] ps).map AV.agg:=by kernel_rfl
theorem b4o (b o:Nat):q0o TP 82 (.ptr (some ⟨b,o⟩)) 1=some (.ptr (some ⟨b,o+4⟩)):=by kernel_rfl
theorem b64 (ps:List (Nat×AV)):q11 TP 158 ps=(q0p (fun i=>([(0,1),(1,1),(2,3),(5,2),(7,2)]:List (Nat×Nat))[i]?) [.str [],.str [],.int .i64 0,.int .u64 0,.int .i64 0,.int .i64 0,.int .u64 0,.int .i64 0,.int .u64 0] ps).map AV.agg:=by kernel_rfl
theorem b68 (ps:List (Nat×AV)):q11 TP 243 ps=(q0p (fun i=>([(0,1)]:List (Nat×Nat))[i]?) [.sl none 0 0 0 true] ps).map AV.agg:=by kernel_rfl
theorem b0t (b o:Nat):q0o TP 243 (.ptr (some ⟨b,o⟩)) 0=some (.ptr (some ⟨b,o+0⟩)):=by kernel_rfl
theorem b7I (p:AV) (m:Mem):q1H TP 150 p m=ld1 m p:=by kernel_rfl
theorem b3E (k:IntKind) (n:Int):q56 TP 35 5 (.int k n)=some (.int .u8 (IntKind.wrap .u8 n)):=by kernel_rfl
theorem b69 (ps:List (Nat×AV)):q11 TP 250 ps=(q0p (fun i=>([(0,1),(1,1),(2,1)]:List (Nat×Nat))[i]?) [.sl none 0 0 0 true,.int .i64 0,.int .i64 0] ps).map AV.agg:=by kernel_rfl
end
end Go.Proofs.YtkbhcgifnnhbaaaGreatDoor
