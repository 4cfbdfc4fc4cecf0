/- Texts of one claim, put together. -/
import Derived.Test.YtkbhcgifnnhbaaaGreatDoorK1
import Derived.Laws.Strings2
import Derived.Laws.Entries
namespace Go.Abs
open Go
section
section
variable {P:Program} {p:Phi} {w:World}
def Gives (P:Program) (p:Phi) (s:Sem Value) (w:World) (v:AV):Prop:=∃cv,s.run P w=.ok cv w/\VR p v cv
theorem q0l {t:TypeId} {d:TypeDesc} (h:P.underlying t=some d) (w:World):(underlying t).run P w=.ok d w:=run_underlying h w
theorem q8t {t:TypeId} {i:TypeInfo} (h:P.info? t=some i) (w:World):(typeInfo t).run P w=.ok i w:=by simp[typeInfo,h]
theorem q1j {t:TypeId} {n:Nat} (h:szT P t=some n) (w:World):(sizeOf t).run P w=.ok n w:=by
 unfold szT at h;cases hi:P.info? t with
 |none=>simp[hi]at h
 |some i=>rw[hi]at h;cases h;simp[sizeOf,q8t hi]
theorem q9K {t:TypeId} {d:TypeDesc} (h:P.underlying t=some d) (w:World):(isAgg t).run P w=.ok (z9I P t) w:=by
 simp only[isAgg,Sem.run_bind,q0l h,Result.andThen_ok,z9I,h];cases d<;>rfl
theorem q29 {t:List AV} {a:Act} (ht:VRs p t a.tmps.toList) (hg:∀g,g<P.globals.size->∃n,p g=some ⟨g,0,n,none⟩) {x:Operand} {v:AV} (h:ev P t x=some v):VR p v (a.eval x):=by
 cases x with
 |tmp i=>
  simp only[ev,q3M,xoi]at h;subst h;simp only[Act.eval];cases e:t[i]? with
  |none=>rw[xAe,e];simp[VR]
  |some b=>
   obtain⟨v,h1,h2⟩:=ht.get e;rw[xAe,e];have:a.tmps.getD i undef=v:=by
    rw[xAx,<-xCj,h1];rfl
   rw[this];exact h2
 |const c=>exact j9y p h
 |global g=>
  simp only[ev]at h;split at h
  ·rename_i hlt;cases h;obtain⟨n,hn⟩:=hg g hlt;simp only[VR,Act.eval];exact⟨_,hn,rfl⟩
  ·simp at h
 |func f=>simp only[ev,xoi]at h;subst h;simp only[VR,Act.eval];exact⟨[],[],rfl,by simp[VRs],by simp[VRs]⟩
theorem q8V {t:List AV} {a:Act} (ht:VRs p t a.tmps.toList) (hg:∀g,g<P.globals.size->∃n,p g=some ⟨g,0,n,none⟩):∀{xs:List Operand} {vs:List AV},evs P t xs=some vs->VRs p vs (xs.map a.eval)
 |[],vs,h=>by simp only[evs,xoi]at h;subst h;simp[VRs]
 |x::xs,vs,h=>by
  simp only[evs]at h;split at h
  ·rename_i v vs' h1 h2;cases h;simp only[VRs,xBf];exact⟨_,_,rfl,q29 ht hg h1,q8V ht hg h2⟩
  ·simp at h
inductive z0o (p:Phi):List (Nat×AV)->List (Nat×Value)->Prop
 |nil:z0o p [] []
 |cons {i:Nat} {a:AV} {v:Value} {as:List (Nat×AV)} {vs:List (Nat×Value)} (h:VR p a v) (t:z0o p as vs):z0o p ((i,a)::as) ((i,v)::vs)
theorem q7q {t:List AV} {a:Act} (ht:VRs p t a.tmps.toList) (hg:∀g,g<P.globals.size->∃n,p g=some ⟨g,0,n,none⟩):∀{xs:List (Nat×Operand)} {vs:List (Nat×AV)},q2a P t xs=some vs->
  z0o p vs (xs.map fun (i,x)=>(i,a.eval x))
 |[],vs,h=>by simp only[q2a,xoi]at h;subst h;exact .nil
 |(i,x)::xs,vs,h=>by
  simp only[q2a]at h;split at h
  ·rename_i v vs' h1 h2;cases h;exact .cons (q29 ht hg h1) (q7q ht hg h2)
  ·simp at h
theorem bytesLess_eq:∀(x y:List UInt8),Op.bytesLess x y=q0g x y
 | _,[]=>by cases ‹List UInt8›<;>rfl
 |[],_::_=>rfl
 |a::x,b::y=>by
  simp only[Op.bytesLess,q0g,bytesLess_eq x y];congr 1
theorem j1D (s:List UInt8):(ByteArray.mk ⟨s⟩).toList=s:=by rw[ByteArray.toList_eq]
theorem q7c (s:List UInt8):(ByteArray.mk ⟨s⟩).size=s.length:=rfl
theorem j1C (x y:List UInt8):(ByteArray.mk ⟨x⟩++ByteArray.mk ⟨y⟩:ByteArray)=⟨⟨x++y⟩⟩:=by
 apply ByteArray.ext;rw[ByteArray.data_append];simp
theorem j0V {op:BinOp} {k:IntKind} {x y:Int} {v:AV} (h:q6i op k x y=some v) :
  Gives P p (match op with | .add | .sub | .mul=>Op.intArith op k x y | .quo | .rem=>Op.intDiv op k x y | .and | .or | .xor | .andNot=>Op.intBits op k x y | _=>Op.intCmp op x y) w v:=by
 unfold Gives;cases op<;>simp only[q6i]at h
 case quo=>split at h<;>cases h;rename_i hy;exact⟨.int k (k.wrap (x.tdiv y)),by simp[Op.intDiv,hy],by simp[VR]⟩
 case rem=>split at h<;>cases h;rename_i hy;exact⟨.int k (x.tmod y),by simp[Op.intDiv,hy],by simp[VR]⟩
 all_goals (first|(cases h;done)|(cases h;exact⟨_,rfl,by simp[VR]⟩))
theorem j1B {op:BinOp} {x y:List UInt8} {v:AV} (h:b1V op x y=some v):Gives P p (Op.stringOp op ⟨⟨x⟩⟩ ⟨⟨y⟩⟩) w v:=by
 unfold Gives Op.stringOp;simp only[j1D,bytesLess_eq,q7c];cases op<;>simp only[b1V]at h
 case add=>
  split at h
  ·rename_i hle;cases h;refine⟨.string (⟨⟨x⟩⟩++⟨⟨y⟩⟩),?_,?_⟩
   ·simp only[];rw[xAa]
    ·rfl
    ·have:IntKind.i64.max=9223372036854775807:=by decide
     rw[this];omega
   ·simp only[VR,j1C]
  ·simp at h
 all_goals first
  |(cases h;done)
  |(cases h;exact⟨_,rfl,by simp[VR]⟩)
theorem a0r {op:BinOp} (hop:op=.shl\/op=.shr) {k yk:IntKind} {x y:Int} {v:AV} (h:shA op k x y=some v):Gives P p (Op.shift op k x yk y) w v:=by
 unfold shA at h;split at h
 ·simp at h
 ·rename_i hy;unfold Gives Op.shift;rw[xAa hy];rcases hop with rfl|rfl<;>(simp only at h;cases h;exact⟨_,rfl,by simp[VR]⟩)
theorem q1t {t:TypeId} {cs:List AV} {cs':List Value} (hcs:VRs p cs cs') {off:Nat} {v:AV} (h:z2m P t cs off=some v) :
  Gives P p (part t ⟨cs'⟩ off) w v:=by
 unfold z2m at h;split at h
 ·simp at h
 rename_i d hd;unfold Gives part;simp only[Sem.run_bind,q9K hd,Result.andThen_ok];split at h
 ·rename_i ha;split at h
  ·rename_i n hn;split at h
   ·rename_i hle;cases h;simp only[ha,xAd,Sem.run_bind,q1j hn,Result.andThen_ok];refine⟨_,rfl,?_⟩;simp only[VR];refine⟨(cs'.drop off).take n,?_,(hcs.drop off).take n⟩;congr 1;apply xEy;simp[List.extract_eq_take_drop,xEp]
   ·simp at h
  ·simp at h
 ·rename_i ha;simp only[ha];obtain⟨v',h1,h2⟩:=hcs.get h;have:(⟨cs'⟩:Array Value)[off]? = some v':=by simpa using h1
  simp only[this,xbq,xAh];exact⟨v',rfl,h2⟩
def z8D (P:Program) (s:Sem Bool) (w:World) (b:Bool):Prop:=s.run P w=.ok b w
def z0C (n:Nat) (xs ys:Array Value) (f:Field) (_:Option Bool×Unit):Sem (ForInStep (Option Bool×Unit)):=
 if f.name = "_" then pure (ForInStep.yield (none, ()))
 else do
  let a<-part f.type xs f.offset
  let b<-part f.type ys f.offset
  let r<-Op.equalIn n f.type a b
  if r=false then pure (ForInStep.done (some false,())) else pure (ForInStep.yield (none,()))
def z3I (n:Nat) (elem:TypeId) (k:Nat) (xs ys:Array Value) (i:Nat) (_:Option Bool×Unit):Sem (ForInStep (Option Bool×Unit)):=do
  let a<-part elem xs (i*k)
  let b<-part elem ys (i*k)
  let r<-Op.equalIn n elem a b
  if r=false then pure (ForInStep.done (some false,())) else pure (ForInStep.yield (none,()))
theorem j4u {d:Nat} {t:TypeId} {a c:AV} {b:Bool} (h:eqA P d t a c=some b):∃dd,P.underlying t=some dd:=by
 cases e:P.underlying t with
 |some dd=>exact⟨dd,rfl⟩
 |none=>
  cases d with
  |zero=>simp[eqA]at h
  |succ d=>simp[eqA,e]at h
theorem q96 {n d:Nat}
  (ih:∀{t:TypeId} {x y:AV} {x' y':Value} {b:Bool},VR p x x'->VR p y y'->eqA P d t x y=some b->z8D P (Op.equalIn n t x' y') w b)
  {xs ys:List AV} {xs' ys':List Value} (hx:VRs p xs xs') (hy:VRs p ys ys') :
  ∀{fs:List Field} {b:Bool},eqFields P (eqA P d) fs xs ys=some b->
  ∃r,(forIn fs (none,()) (z0C n ⟨xs'⟩ ⟨ys'⟩)).run P w=.ok r w/\r.1.getD true=b:=by
 intro fs;induction fs with
 |nil=>intro b h;simp only[eqFields,xoi]at h;subst h;exact⟨(none,()),rfl,rfl⟩
 |cons f fs ih2=>
  intro b h;simp only[eqFields]at h;rw[List.forIn_cons];by_cases hn : f.name = "_"
  ·rw[xAb hn]at h;obtain⟨r,h1,h2⟩:=ih2 h;refine⟨r,?_,h2⟩;simp only[z0C,hn,xAd,Sem.run_bind,Sem.run_pure,Result.andThen_ok];exact h1
  ·rw[xAa hn]at h;split at h
   ·rename_i a c ha hc;split at h
    ·rename_i he;obtain⟨a',ha1,ha2⟩:=q1t (w:=w) hx ha;obtain⟨c',hc1,hc2⟩:=q1t (w:=w) hy hc;have h3:(Op.equalIn n f.type a' c').run P w=.ok true w:=ih ha2 hc2 he;obtain⟨r,h1,h2⟩:=ih2 h;refine⟨r,?_,h2⟩;simp only[z0C,hn,xAh,Sem.run_bind,ha1,hc1,h3,Result.andThen_ok,Bool.true_eq_false,Sem.run_pure];exact h1
    ·rename_i he;cases h;obtain⟨a',ha1,ha2⟩:=q1t (w:=w) hx ha;obtain⟨c',hc1,hc2⟩:=q1t (w:=w) hy hc;have h3:(Op.equalIn n f.type a' c').run P w=.ok false w:=ih ha2 hc2 he;refine⟨(some false,()),?_,rfl⟩;simp only[z0C,hn,xAh,Sem.run_bind,ha1,hc1,h3,Result.andThen_ok,xAd,Sem.run_pure]
    ·simp at h
   ·simp at h
theorem z1x {n d:Nat}
  (ih:∀{t:TypeId} {x y:AV} {x' y':Value} {b:Bool},VR p x x'->VR p y y'->eqA P d t x y=some b->z8D P (Op.equalIn n t x' y') w b)
  {xs ys:List AV} {xs' ys':List Value} (hx:VRs p xs xs') (hy:VRs p ys ys') {elem:TypeId} {k:Nat} :
  ∀{len i:Nat} {b:Bool},q44 P (eqA P d) elem k xs ys len i=some b->
  ∃r,(forIn (List.range' i len) (none,()) (z3I n elem k ⟨xs'⟩ ⟨ys'⟩)).run P w=.ok r w/\r.1.getD true=b:=by
 intro len;induction len with
 |zero=>intro i b h;simp only[q44,xoi]at h;subst h;exact⟨(none,()),rfl,rfl⟩
 |succ len ih2=>
  intro i b h;simp only[q44]at h;rw[List.range'_succ,List.forIn_cons];split at h
  ·rename_i a c ha hc;split at h
   ·rename_i he;obtain⟨a',ha1,ha2⟩:=q1t (w:=w) hx ha;obtain⟨c',hc1,hc2⟩:=q1t (w:=w) hy hc;have h3:(Op.equalIn n elem a' c').run P w=.ok true w:=ih ha2 hc2 he;obtain⟨r,h1,h2⟩:=ih2 h;refine⟨r,?_,h2⟩;simp only[z3I,Sem.run_bind,ha1,hc1,h3,Result.andThen_ok,Bool.true_eq_false,xAh,Sem.run_pure];exact h1
   ·rename_i he;cases h;obtain⟨a',ha1,ha2⟩:=q1t (w:=w) hx ha;obtain⟨c',hc1,hc2⟩:=q1t (w:=w) hy hc;have h3:(Op.equalIn n elem a' c').run P w=.ok false w:=ih ha2 hc2 he;refine⟨(some false,()),?_,rfl⟩;simp only[z3I,Sem.run_bind,ha1,hc1,h3,Result.andThen_ok,xAd,Sem.run_pure]
   ·simp at h
  ·simp at h
theorem q97 {t:TypeId} {n:Nat} {fields:Array Field} (hd:P.underlying t=some (.struct fields)) (hs:P.stoodInHeld t=false) (xs ys:Array Value) :
  (Op.equalIn (n+1) t (.agg xs) (.agg ys)).run P w=((forIn fields.toList (none,()) (z0C n xs ys)).run P w).andThen fun r w'=>.ok (r.1.getD true) w':=by
 simp only[Op.equalIn,Sem.run_bind,q0l hd,Result.andThen_ok,run_program,hs];rw[Array.forIn_toList];unfold z0C;simp;generalize Sem.run P _ w=x;cases x with
 |ok a w=>rcases a with ⟨_ | _,_⟩<;>rfl
 |halt=>rfl
theorem z1y {t:TypeId} {n len elem k:Nat} (hd:P.underlying t=some (.array len elem)) (hk:szT P elem=some k) (xs ys:Array Value) :
  (Op.equalIn (n+1) t (.agg xs) (.agg ys)).run P w=((forIn (List.range' 0 len) (none,()) (z3I n elem k xs ys)).run P w).andThen fun r w'=>.ok (r.1.getD true) w':=by
 simp only[Op.equalIn,Sem.run_bind,q0l hd,Result.andThen_ok,q1j hk];rw[Std.Legacy.Range.forIn_eq_forIn_range'];unfold z3I;simp[Std.Legacy.Range.size];generalize Sem.run P _ w=x;cases x with
 |ok a w=>rcases a with ⟨_ | _,_⟩<;>rfl
 |halt=>rfl
theorem j4t:∀{d n:Nat} (_:d<=n) {t:TypeId} {x y:AV} {x' y':Value} {b:Bool},VR p x x'->VR p y y'->eqA P d t x y=some b->z8D P (Op.equalIn n t x' y') w b:=by
 intro d;induction d with
 |zero=>intro n _ t x y x' y' b _ _ h;simp[eqA]at h
 |succ d ih=>
  intro n hn t x y x' y' b hx hy h;obtain⟨n,rfl⟩:∃j,n=j+1:=⟨n-1,by omega⟩;obtain⟨dd,hdd⟩:=j4u h;unfold z8D;simp only[eqA,hdd]at h;cases dd with
  |struct fields=>
   simp only at h;split at h
   ·simp at h
   ·rename_i hs;cases x<;>simp only[z1h,xDw,xAr]at h<;>try (simp at h;done)
    cases y<;>simp only[xDw,xAr]at h<;>try (simp at h;done)
    simp only[VR]at hx hy;obtain⟨xs',rfl,hx⟩:=hx;obtain⟨ys',rfl,hy⟩:=hy;rw[q97 hdd (by simpa using hs)];obtain⟨r,h1,h2⟩:=q96 (n:=n) (fun a b c=>ih (by omega) a b c) hx hy h
    rw[h1];simp[h2]
  |array len elem=>
   simp only at h;cases x<;>simp only[z1h,xDw,xAr]at h<;>try (simp at h;done)
   cases y<;>simp only[xDw,xAr]at h<;>try (simp at h;done)
   cases hk:szT P elem with
   |none=>simp[hk]at h
   |some k=>
    rw[hk]at h;simp only[VR]at hx hy;obtain⟨xs',rfl,hx⟩:=hx;obtain⟨ys',rfl,hy⟩:=hy;rw[z1y hdd hk];obtain⟨r,h1,h2⟩:=z1x (n:=n) (fun a b c=>ih (by omega) a b c) hx hy h
    rw[h1];simp[h2]
  |bool=>
   simp only[j4v]at h;split at h
   ·simp only[VR]at hx hy;subst hx hy;cases h;simp[Op.equalIn,q0l hdd]
   ·simp at h
  |int k=>
   simp only[a8T]at h;split at h
   ·simp only[VR]at hx hy;subst hx hy;split at h
    ·rename_i hk;cases h;simp[Op.equalIn,q0l hdd,hk]
    ·simp at h
   ·simp at h
  |string=>
   simp only[a8W]at h;split at h
   ·simp only[VR]at hx hy;subst hx hy;cases h;simp only[Op.equalIn,Sem.run_bind,q0l hdd,Result.andThen_ok,Sem.run_pure];congr 1;rename_i s s';rw[xDl];simp only[beq_iff_eq];rw[show ((ByteArray.mk ⟨s⟩)==(ByteArray.mk ⟨s'⟩))=((⟨s⟩:Array UInt8)==⟨s'⟩) from rfl,beq_iff_eq];exact⟨fun e=>by injection e,fun e=>by rw[e]⟩
   ·simp at h
  |pointer e=>
   simp only[a8V]at h;split at h
   ·simp only[VR]at hx;subst hx;cases h;rename_i q;cases q with
    |none=>simp only[VR]at hy;subst hy;simp[Op.equalIn,q0l hdd]
    |some q=>simp only[VR]at hy;obtain⟨ci,_,rfl⟩:=hy;simp[Op.equalIn,q0l hdd]
   ·simp only[VR]at hx hy;subst hy;cases h;obtain⟨ci,_,rfl⟩:=hx;simp[Op.equalIn,q0l hdd]
   ·simp at h
  |slice e=>
   simp only[b7r]at h;split at h
   ·simp only[VR]at hx hy;obtain⟨_,_,_,rfl,ha⟩:=hx;obtain⟨_,_,_,rfl,hb⟩:=hy;cases ha xFn;cases hb xFn;cases h;simp[Op.equalIn,q0l hdd]
   ·simp only[VR,SR]at hx hy;obtain⟨_,_,_,rfl,ha⟩:=hx;cases ha xFn;cases h;obtain⟨_,_,_,_,rfl,_⟩:=hy;simp[Op.equalIn,q0l hdd]
   ·simp only[VR,SR]at hx hy;obtain⟨_,_,_,rfl,hb⟩:=hy;cases hb xFn;cases h;obtain⟨_,_,_,_,rfl,_⟩:=hx;simp[Op.equalIn,q0l hdd]
   ·simp at h
  |map k e=>
   simp only[a8U]at h;split at h
   ·simp only[VR]at hx;subst hx;cases h;rename_i q;cases q with
    |none=>simp only[VR]at hy;subst hy;simp[Op.equalIn,q0l hdd]
    |some q=>simp only[VR]at hy;obtain⟨ci,_,rfl⟩:=hy;simp[Op.equalIn,q0l hdd]
   ·simp only[VR]at hx hy;subst hy;cases h;obtain⟨ci,_,rfl⟩:=hx;simp[Op.equalIn,q0l hdd]
   ·simp at h
  |func a b c=>
   simp only[b7q]at h;split at h
   ·simp only[VR]at hx hy;subst hx hy;cases h;simp[Op.equalIn,q0l hdd]
   ·simp only[VR]at hx hy;subst hx;obtain⟨_,_,rfl,_⟩:=hy;cases h;simp[Op.equalIn,q0l hdd]
   ·simp only[VR]at hx hy;subst hy;obtain⟨_,_,rfl,_⟩:=hx;cases h;simp[Op.equalIn,q0l hdd]
   ·simp at h
  |interface ms=>
   simp only[z6O]at h;split at h
   ·simp only[VR]at hx hy;subst hx;obtain⟨_,rfl,_⟩:=hy;cases h;simp[Op.equalIn,q0l hdd]
   ·simp only[VR]at hx hy;subst hy;obtain⟨_,rfl,_⟩:=hx;cases h;simp[Op.equalIn,q0l hdd]
   ·simp at h
  | _=>simp at h
end
end
section
section
variable {P:Program} {p:Phi} {w:World}
theorem q8T (d:Nat) (t:TypeId) (y:AV):eqA P d t .undef y=none:=by
 cases d with
 |zero=>rfl
 |succ d=>simp only[eqA];split<;>first|rfl|(split<;>rfl)
theorem q6x (d:Nat) (t:TypeId):eqA P d t .nilIface .undef=none:=by
 cases d with
 |zero=>rfl
 |succ d=>simp only[eqA];split<;>first|rfl|(split<;>rfl)
theorem q7Y (d:Nat) (t:TypeId):eqA P d t .nilIface .nilIface=none:=by
 cases d with
 |zero=>rfl
 |succ d=>simp only[eqA];split<;>first|rfl|(split<;>rfl)
theorem q8F {x:AV} (h:VR p x .nilIface):x=.undef\/x=.nilIface:=by
 cases x with
 |undef=>exact .inl rfl
 |nilIface=>exact .inr rfl
 |ptr a=>cases a<;>simp[VR]at h
 |sl a=>cases a<;>simp[VR,SR]at h
 |map a=>cases a<;>simp[VR]at h
 | _=>simp[VR]at h
theorem b2N {x:AV} {cs:Array Value} (h:VR p x (.agg cs)):x=.undef\/∃xs,x=.agg xs:=by
 cases x with
 |undef=>exact .inl rfl
 |agg xs=>exact .inr ⟨xs,rfl⟩
 |ptr a=>cases a<;>simp[VR]at h
 |sl a=>cases a<;>simp[VR,SR]at h
 |map a=>cases a<;>simp[VR]at h
 | _=>simp[VR]at h
theorem q58 {op:BinOp} {t:TypeId} {xo yo:Operand} {x y:Value} (h1:¬(x=.nilIface/\y=.nilIface)) (h2:(∃cs,x=.agg cs)->P.eqGuardType P.depth t=false) :
  (eqGuard op t xo yo x y).run P w=.ok () w:=by
 unfold eqGuard;by_cases hop:op=.eql\/op=.neq
 ·have:(!(match op with | .eql | .neq=>true | _=>false))=false:=by rcases hop with rfl|rfl<;>rfl
  cases x with
  |nilIface=>
   cases y with
   |nilIface=>exact absurd ⟨rfl,rfl⟩ h1
   | _=>rcases hop with rfl|rfl<;>rfl
  |agg cs=>
   cases y with
   |agg ds=>rcases hop with rfl|rfl<;>simp[h2 ⟨cs,rfl⟩]
   | _=>rcases hop with rfl|rfl<;>rfl
  | _=>rcases hop with rfl|rfl<;>rfl
 ·cases op<;>first|rfl|(exact absurd (.inl rfl) hop)|(exact absurd (.inr rfl) hop)
theorem z3J {op:BinOp} {neg:Bool} {t:TypeId} {x y:AV} {x' y':Value} {v:AV} (hx:VR p x x') (hy:VR p y y') (h:eqT P neg t x y=some v) {xo yo:Operand} :
  (eqGuard op t xo yo x' y').run P w=.ok () w/\∃b,(Op.equal t x' y').run P w=.ok b w/\v=.bool (if neg then !b else b):=by
 unfold eqT at h;split at h
 ·rename_i b hb;cases h;split at hb
  ·simp at hb
  ·rename_i hagg;refine⟨q58 ?_ ?_,b,j4t (n:=10000) (by omega) hx hy hb,rfl⟩
   ·rintro⟨rfl,rfl⟩
    rcases q8F hx with rfl|rfl
    ·rw[q8T]at hb;simp at hb
    ·rcases q8F hy with rfl|rfl
     ·rw[q6x]at hb;simp at hb
     ·rw[q7Y]at hb;simp at hb
   ·rintro⟨cs,rfl⟩
    rcases b2N hx with rfl|⟨xs,rfl⟩
    ·rw[q8T]at hb;simp at hb
    ·simpa[j8W]using hagg
 ·simp at h
theorem binOp_eql {t:TypeId} {x y:AV} {x' y':Value} (hx:VR p x x') (hy:VR p y y') (hn:x≠.undef) (hy0:y≠.undef) (h1:∀k a k' b,¬(x=.int k a/\y=.int k' b)) (h2:∀a b,¬(x=.str a/\y=.str b)) :
  binOp .eql t x' y'=(do pure (.bool (<-Op.equal t x' y')))/\binOp .neq t x' y'=(do pure (.bool (!(<-Op.equal t x' y')))):=by
 have ex:∀{x:AV} {x':Value},VR p x x'->x≠.undef->(∃k a,x'=.int k a/\x=.int k a)\/(∃s,x'=.string ⟨⟨s⟩⟩/\x=.str s)\/((∀k a,x'≠.int k a)/\(∀s,x'≠.string s)/\(∀k a,x'≠.float k a)/\(∀k a b,x'≠.complex k a b)):=by
  intro x x' h hn;cases x with
  |undef=>exact absurd rfl hn
  |int k a=>simp only[VR]at h;exact .inl ⟨k,a,h,rfl⟩
  |str s=>simp only[VR]at h;exact .inr (.inl ⟨s,h,rfl⟩)
  |bool b=>simp only[VR]at h;subst h;simp
  |nilFn=>simp only[VR]at h;subst h;simp
  |nilIface=>simp only[VR]at h;subst h;simp
  |ptr a=>cases a<;>simp only[VR]at h<;>first|(subst h;simp;done)|(obtain⟨_,_,rfl⟩:=h;simp)
  |map a=>cases a<;>simp only[VR]at h<;>first|(subst h;simp;done)|(obtain⟨_,_,rfl⟩:=h;simp)
  |sl a=>cases a<;>simp only[VR,SR]at h<;>first|(obtain⟨_,_,_,_,rfl,_⟩:=h;simp;done)|(obtain⟨_,_,_,rfl,_⟩:=h;simp)
  |fn=>simp only[VR]at h;obtain⟨_,_,rfl,_⟩:=h;simp
  |yld=>simp only[VR]at h;obtain⟨_,_,rfl⟩:=h;simp
  |iface=>simp only[VR]at h;obtain⟨_,rfl,_⟩:=h;simp
  |agg=>simp only[VR]at h;obtain⟨_,rfl,_⟩:=h;simp
  |tup=>simp only[VR]at h;obtain⟨_,rfl,_⟩:=h;simp
 rcases ex hx hn with ⟨k,a,rfl,rfl⟩|⟨s,rfl,rfl⟩|⟨i1,i2,i3,i4⟩
 ·rcases ex hy hy0 with ⟨k',b,rfl,rfl⟩|⟨s',rfl,rfl⟩|⟨j1,j2,j3,j4⟩
  ·exact absurd ⟨rfl,rfl⟩ (h1 _ _ _ _)
  ·exact⟨rfl,rfl⟩
  ·cases y'<;>first|exact⟨rfl,rfl⟩|exact absurd rfl (j1 _ _)
 ·rcases ex hy hy0 with ⟨k',b,rfl,rfl⟩|⟨s',rfl,rfl⟩|⟨j1,j2,j3,j4⟩
  ·exact⟨rfl,rfl⟩
  ·exact absurd ⟨rfl,rfl⟩ (h2 _ _)
  ·cases y'<;>first|exact⟨rfl,rfl⟩|exact absurd rfl (j2 _)
 ·cases x'<;>first
   |exact absurd rfl (i1 _ _)
   |exact absurd rfl (i2 _)
   |exact absurd rfl (i3 _ _)
   |exact absurd rfl (i4 _ _ _)
   |(cases y'<;>exact⟨rfl,rfl⟩)
theorem j4w (neg:Bool) (t:TypeId) (y:AV):eqT P neg t .undef y=none:=by
 unfold eqT;simp[j8W,q8T]
theorem z6N:∀(d:Nat) (t:TypeId) (x:AV),eqA P d t x .undef=none:=by
 intro d t x;have h1:∀x,j4v x .undef=none:=fun x=>by cases x<;>rfl
 have h2:∀x,a8T x .undef=none:=fun x=>by cases x<;>rfl
 have h3:∀x,a8W x .undef=none:=fun x=>by cases x<;>rfl
 have h4:∀x,a8V x .undef=none:=fun x=>by cases x with|ptr a=>cases a<;>rfl | _=>rfl
 have h5:∀x,b7r x .undef=none:=fun x=>by cases x with|sl a _ _ _ ex=>cases a<;>cases ex<;>rfl | _=>rfl
 have h6:∀x,a8U x .undef=none:=fun x=>by cases x with|map a=>cases a<;>rfl | _=>rfl
 have h7:∀x,b7q x .undef=none:=fun x=>by cases x<;>rfl
 have h8:∀x,z6O x .undef=none:=fun x=>by cases x<;>rfl
 cases d with
 |zero=>rfl
 |succ d=>
  simp only[eqA,h1,h2,h3,h4,h5,h6,h7,h8,show z1h AV.undef=none from rfl,xDw];split<;>first|rfl|(split<;>first|rfl|(cases z1h x<;>rfl))|(cases z1h x<;>rfl)
theorem z6P (neg:Bool) (t:TypeId) (x:AV):eqT P neg t x .undef=none:=by
 unfold eqT;rw[z6N];simp
theorem j0G {op:BinOp} {t _yt:TypeId} {x y:AV} {x' y':Value} {v:AV} (hx:VR p x x') (hy:VR p y y') (h:q0E P op t x y=some v) {xo yo:Operand} :
  Gives P p (do eqGuard op t xo yo x' y';binOp op t x' y') w v:=by
 unfold q0E at h;split at h
 ·
  rename_i k a k' b;simp only[VR]at hx hy;subst hx hy;have hg:(eqGuard op t xo yo (.int k a) (.int k' b)).run P w=.ok () w:=q58 (by simp) (by simp);unfold Gives;simp only[Sem.run_bind,hg,Result.andThen_ok];by_cases hs:op=.shl\/op=.shr
  ·rcases hs with rfl|rfl<;>exact a0r (yk:=k') (by simp) h
  ·have h':(if k=k' then q6i op k a b else none)=some v:=by
    cases op<;>first|exact h|(exact absurd (.inl rfl) hs)|(exact absurd (.inr rfl) hs)
   split at h'
   ·rename_i hk;subst hk;have:=j0V (P:=P) (p:=p) (w:=w) h';cases op<;>first
     |(exact absurd (.inl rfl) hs)
     |(exact absurd (.inr rfl) hs)
     |(simpa[binOp,Gives]using this)
   ·simp at h'
 ·rename_i a b;simp only[VR]at hx hy;subst hx hy;have hg:(eqGuard op t xo yo (.string ⟨⟨a⟩⟩) (.string ⟨⟨b⟩⟩)).run P w=.ok () w:=q58 (by simp) (by simp);unfold Gives;simp only[Sem.run_bind,hg,Result.andThen_ok];by_cases hs:op=.shl\/op=.shr
  ·rcases hs with rfl|rfl<;>simp at h
  ·have h':b1V op a b=some v:=by
    cases op<;>first|exact h|(exact absurd (.inl rfl) hs)|(exact absurd (.inr rfl) hs)
   have:=j1B (P:=P) (p:=p) (w:=w) h';cases op<;>first
     |(exact absurd (.inl rfl) hs)
     |(exact absurd (.inr rfl) hs)
     |(simpa[binOp,Gives]using this)
 ·rename_i h1 h2;have hu:x≠.undef/\y≠.undef:=by
   constructor
   ·rintro rfl;split at h<;>first|(rw[j4w]at h;simp at h;done)|simp at h
   ·rintro rfl;split at h<;>first|(rw[z6P]at h;simp at h;done)|simp at h
  have hb:=binOp_eql (t:=t) hx hy hu.1 hu.2 (fun k a k' b e=>h1 k a k' b e.1 e.2) (fun a b e=>h2 a b e.1 e.2)
  split at h
  ·obtain⟨hg,b,hr,rfl⟩:=z3J (w:=w) (op:=.eql) hx hy h (xo:=xo) (yo:=yo);refine⟨.bool b,?_,by simp[VR]⟩;rw[hb.1];simp only[Sem.run_bind,hg,Result.andThen_ok,hr,Sem.run_pure]
  ·obtain⟨hg,b,hr,rfl⟩:=z3J (w:=w) (op:=.neq) hx hy h (xo:=xo) (yo:=yo);refine⟨.bool !b,?_,by simp[VR]⟩;rw[hb.2];simp only[Sem.run_bind,hg,Result.andThen_ok,hr,Sem.run_pure]
  ·simp at h
theorem a0B {op:UnOp} {x:AV} {x':Value} {v:AV} (hx:VR p x x') (h:unA op x=some v):Gives P p (Op.unary op x') w v:=by
 unfold unA at h;split at h
 ·simp only[VR]at hx;subst hx;cases h;exact⟨_,rfl,by simp[VR]⟩
 ·simp only[VR]at hx;subst hx;simp only[q6i]at h;cases h;exact⟨_,rfl,by simp[VR]⟩
 ·simp only[VR]at hx;subst hx;cases h;exact⟨_,rfl,by simp[VR]⟩
 ·simp at h
theorem z6I {src dst:TypeId} {x:AV} {x':Value} {v:AV} (hx:VR p x x') (h:q56 P src dst x=some v):Gives P p (convert src dst x') w v:=by
 unfold q56 at h;split at h
 ·rename_i k0 k n h1 h2;simp only[VR]at hx;subst hx;cases h;refine⟨.int k0 (k0.wrap n),?_,by simp[VR]⟩;simp only[convert,Sem.run_bind,q0l h1,q0l h2,Result.andThen_ok];rfl
 ·rename_i s0 h1 h2;simp only[VR]at hx;subst hx;cases h;refine⟨.string ⟨⟨s0⟩⟩,?_,by simp only[VR]⟩;simp only[convert,Sem.run_bind,q0l h1,q0l h2,Result.andThen_ok];rfl
 ·simp at h
theorem j9A {x:AV} {n:Nat} {v:AV} (h:b74 x n=some v):∃a,x=.ptr (some a)/\v=.ptr (some ⟨a.b,a.o+n⟩):=by
 unfold b74 at h;split at h
 ·rename_i a;cases h;exact⟨a,rfl,rfl⟩
 ·simp at h
theorem addr_add (c o n:Nat):(⟨c,o,none⟩:Addr).add n=⟨c,o+n,none⟩:=by
 unfold Addr.add;split
 ·rename_i h;subst h;rfl
 ·rfl
theorem q7i {a:AA} {ci:CI} (h:p a.b=some ci) (n:Nat):VR p (.ptr (some ⟨a.b,a.o+n⟩)) (.pointer (some ((⟨ci.c,a.o+ci.d,none⟩:Addr).add n))):=by
 simp only[VR,addr_add];exact⟨ci,h,by simp only[Nat.add_right_comm]⟩
theorem q7Z {s:TypeId} {x:AV} {f:Nat} {x':Value} {v:AV} (hx:VR p x x') (h:q0o P s x f=some v):Gives P p (Instr.fieldAt s x' f) w v:=by
 unfold q0o z1E at h;split at h
 ·rename_i off ft hf;split at h
  ·rename_i n hn;obtain⟨a,rfl,rfl⟩:=j9A h;simp only[VR]at hx;obtain⟨ci,hci,rfl⟩:=hx;split at hf
   ·rename_i fields hd;simp only[xoe]at hf;obtain⟨fd,h1,h2⟩:=hf;cases h2;unfold Gives Instr.fieldAt;have h1':fields[f]? = some fd:=by simpa using h1
    simp only[Sem.run_bind,q0l hd,Result.andThen_ok,h1',Instr.sureAddr,Sem.run_pure,fieldPlace,q1j hn,Sem.run_ite,Nat.add_one_ne_zero,xAh];exact⟨_,rfl,q7i hci _⟩
   ·simp at hf
  ·simp at h
 ·simp at h
theorem z3R {s:TypeId} {x:AV} {f:Nat} {x':Value} {v:AV} (hx:VR p x x') (h:z9d P s x f=some v):Gives P p (Instr.field s x' f) w v:=by
 unfold z9d at h;split at h
 ·rename_i off ft cs hf;simp only[VR]at hx;obtain⟨cs',rfl,hcs⟩:=hx;unfold z1E at hf;split at hf
  ·rename_i fields hd;simp only[xoe]at hf;obtain⟨fd,h1,h2⟩:=hf;cases h2;unfold Gives Instr.field;have h1':fields[f]? = some fd:=by simpa using h1
   simp only[Sem.run_bind,q0l hd,Result.andThen_ok,h1',asAgg,Sem.run_pure];exact q1t hcs h
  ·simp at hf
 ·simp at h
theorem z9J {sz len:Nat} {a:AA} {i:Int} {v:AV} (h:ixA sz len a i=some v):0<=i/\i<len/\v=.ptr (some ⟨a.b,a.o+i.toNat*sz⟩):=by
 unfold ixA at h;split at h
 ·split at h
  ·cases h;exact⟨‹_›,‹_›,rfl⟩
  ·simp at h
 ·simp at h
theorem q71 {t:TypeId} {x i:AV} {x' i':Value} {v:AV} (hx:VR p x x') (hi:VR p i i') (h:q0A P t x i=some v):Gives P p (Instr.indexAt t x' i') w v:=by
 unfold q0A at h;split at h
 ·rename_i e hd;split at h
  ·rename_i a sz len cap ex k n;simp only[VR]at hi;subst hi;split at h
   ·rename_i s hs;split at h
    ·obtain⟨h0,h1,rfl⟩:=z9J h;simp only[VR,SR]at hx;obtain⟨ci,off,cap',hci,rfl,hlc,hcc,_,_,hoff⟩:=hx;have:off=a.o+ci.d:=hoff (by omega);subst this;unfold Gives Instr.indexAt;simp only[Sem.run_bind,asIntOf,Sem.run_pure,q0l hd,Result.andThen_ok,h0,h1,and_self,xAd,q1j hs];exact⟨_,rfl,q7i hci _⟩
    ·simp at h
   ·simp at h
  ·simp at h
 ·rename_i len e hd;split at h
  ·rename_i a k n;simp only[VR]at hi;subst hi;split at h
   ·rename_i s hs;obtain⟨h0,h1,rfl⟩:=z9J h;simp only[VR]at hx;obtain⟨ci,hci,rfl⟩:=hx;unfold Gives Instr.indexAt;simp only[Sem.run_bind,asIntOf,Sem.run_pure,q0l hd,Result.andThen_ok,Instr.sureAddr,h0,h1,and_self,xAd,q1j hs];exact⟨_,rfl,q7i hci _⟩
   ·simp at h
  ·simp at h
 ·simp at h
theorem z4T {t:TypeId} {x i:AV} {x' i':Value} {v:AV} (hx:VR p x x') (hi:VR p i i') (h:z0J P t x i=some v):Gives P p (Instr.index t x' i') w v:=by
 unfold z0J at h;split at h
 ·rename_i len e hd;split at h
  ·rename_i cs k n;simp only[VR]at hx hi;subst hi;obtain⟨cs',rfl,hcs⟩:=hx;split at h
   ·rename_i h0;split at h
    ·rename_i h1;split at h
     ·rename_i s hs;unfold Gives Instr.index;simp only[Sem.run_bind,asIntOf,Sem.run_pure,q0l hd,Result.andThen_ok,h0,h1,and_self,xAd,q1j hs];exact q1t hcs h
     ·simp at h
    ·simp at h
   ·simp at h
  ·simp at h
 ·rename_i hd;split at h
  ·rename_i s k n;simp only[VR]at hx hi;subst hx hi;split at h
   ·rename_i h0;split at h
    ·rename_i c hc;cases h;unfold Gives Instr.index;have:(if 0<=n then (ByteArray.mk ⟨s⟩)[n.toNat]? else none)=some c:=by
      rw[xAb h0];have hlt:n.toNat<s.length:=(xgi.1 hc).1;rw[getElem?_pos (ByteArray.mk ⟨s⟩) n.toNat (by simpa[q7c]using hlt)];congr 1;have:=(xgi.1 hc).2;rw[<-this];rfl
     simp only[Sem.run_bind,asIntOf,Sem.run_pure,q0l hd,Result.andThen_ok,this];exact⟨_,rfl,by simp[VR]⟩
    ·simp at h
   ·simp at h
  ·simp at h
 ·simp at h
theorem q9i {hi:Option AV} {hi':Option Value} {len cap h:Nat} (hr:∀a,hi=some a->∃v,hi'=some v/\VR p a v) (hn:hi=none->hi'=none) (e:hiA hi len cap=some h) (code:BoundsCode) :
  (match hi' with|some v=>Instr.sliceBound v cap code|none=>pure len).run P w=.ok h w:=by
 unfold hiA at e;split at e
 ·cases e;rw[hn rfl];rfl
 ·rename_i k n;obtain⟨v,rfl,hv⟩:=hr _ rfl;simp only[VR]at hv;subst hv;split at e
  ·split at e
   ·cases e;simp[Instr.sliceBound,asIntOf, *]
   ·simp at e
  ·simp at e
 ·simp at e
theorem q4n {lo:Option AV} {lo':Option Value} {h l:Nat} (hr:∀a,lo=some a->∃v,lo'=some v/\VR p a v) (hn:lo=none->lo'=none) (e:loA lo h=some l) (code:BoundsCode) :
  (match lo' with|some v=>Instr.sliceBound v h code|none=>pure 0).run P w=.ok l w/\l<=h:=by
 unfold loA at e;split at e
 ·cases e;rw[hn rfl];exact⟨rfl,xBx _⟩
 ·rename_i k n _;obtain⟨v,rfl,hv⟩:=hr _ rfl;simp only[VR]at hv;subst hv;split at e
  ·split at e
   ·cases e;exact⟨by simp[Instr.sliceBound,asIntOf, *],by omega⟩
   ·simp at e
  ·simp at e
 ·simp at e
theorem z4S {hi:Option AV} {len cap h:Nat} (hlc:len<=cap) (e:hiA hi len cap=some h):h<=cap:=by
 unfold hiA at e;split at e
 ·cases e;exact hlc
 ·split at e
  ·split at e
   ·cases e;omega
   ·simp at e
  ·simp at e
 ·simp at e
theorem j6X {hi:Option AV} {len cap cap' h:Nat} (hc:cap<=cap') (e:hiA hi len cap=some h):hiA hi len cap'=some h:=by
 unfold hiA at e⊢;split at e
 ·exact e
 ·rename_i n _;split at e
  ·split at e
   ·rename_i h1 h2;rw[xAb h1,xAb (by omega)];exact e
   ·simp at e
  ·simp at e
 ·simp at e
theorem q3Z {isSlice:Bool} {lo hi:Option AV} {lo' hi':Option Value} {len cap h l:Nat} (hlr:∀a,lo=some a->∃v,lo'=some v/\VR p a v) (hln:lo=none->lo'=none)
  (hhr:∀a,hi=some a->∃v,hi'=some v/\VR p a v) (hhn:hi=none->hi'=none) (e1:hiA hi len cap=some h) (e2:loA lo h=some l) :
  (Instr.sliceBounds isSlice len cap lo' hi' none).run P w=.ok (l,h,cap) w:=by
 unfold Instr.sliceBounds;have a1:=q9i (P:=P) (w:=w) hhr hhn e1 (if isSlice then .sliceAcap else .sliceAlen)
 have a2:=(q4n (P:=P) (w:=w) hlr hln e2 .sliceB).1;cases hi' with
 |none=>
  cases lo' with
  |none=>simp only[Sem.run_bind,Sem.run_pure,Result.andThen_ok]at a1 a2⊢;cases a1;cases a2;rfl
  |some b=>
   simp only[Sem.run_bind,Sem.run_pure,Result.andThen_ok]at a1 a2⊢;cases a1;simp only[Option.isSome_none,xbq,xAh,a2,Result.andThen_ok]
 |some c=>
  cases lo' with
  |none=>simp only[Sem.run_bind,Sem.run_pure,Result.andThen_ok,a1]at a2⊢;cases a2;rfl
  |some b=>simp only[Sem.run_bind,Sem.run_pure,Result.andThen_ok,a1,Option.isSome_none,xbq,xAh,a2]
theorem q4a {t:TypeId} {x:AV} {x':Value} {lo hi:Option AV} {lo' hi':Option Value} {v:AV} (hx:VR p x x') (hlr:∀a,lo=some a->∃v,lo'=some v/\VR p a v) (hln:lo=none->lo'=none)
  (hhr:∀a,hi=some a->∃v,hi'=some v/\VR p a v) (hhn:hi=none->hi'=none) (h:q0n P t x lo hi=some v):Gives P p (Instr.sliceAt t x' lo' hi' none) w v:=by
 unfold q0n at h;unfold Gives Instr.sliceAt;split at h
 ·rename_i hd;split at h
  ·rename_i s;simp only[VR]at hx;subst hx;split at h
   ·rename_i hh e1;split at h
    ·rename_i l e2;cases h;simp only[Sem.run_bind,q0l hd,Result.andThen_ok,Instr.slice,Option.isSome_none,xbq,xAh,q7c,Sem.run_pure];rw[q3Z hlr hln hhr hhn e1 e2];refine⟨_,rfl,?_⟩;simp only[VR];rw[show (ByteArray.mk ⟨s⟩)=ByteArray.mk s.toArray from rfl,ByteArray.extract_mk];congr 2;rw[List.drop_take]
    ·simp at h
   ·simp at h
  ·simp at h
 ·rename_i e hd;split at h
  ·rename_i a sz len cap ex s hs;split at h
   ·rename_i hh e1;split at h
    ·rename_i l e2;simp only[Sem.run_bind,q0l hd,Result.andThen_ok];split at h
     ·rename_i a;split at h
      ·rename_i hss;cases h;simp only[VR,SR]at hx;obtain⟨ci,off,cap',hci,rfl,hlc,hcc,hex,hbd,hoff⟩:=hx;simp only[Instr.slice,Sem.run_bind,q0l hd,Result.andThen_ok];rw[q3Z hlr hln hhr hhn (j6X hcc e1) e2];simp only[Result.andThen_ok,q1j hs,Sem.run_pure];refine⟨_,rfl,?_⟩;have hle:=z4S hlc e1;have hl:=(q4n (P:=P) (w:=w) hlr hln e2 .sliceB).2;simp only[VR,SR];by_cases hm:cap'=l
       ·refine⟨ci,off,cap'-l,hci,by simp[hm],by omega,by omega,fun h=>by rw[hex h],fun h=>?_,fun h=>by omega⟩
        have:=hbd h;rw[hm,xFu];omega
       ·refine⟨ci,off+l*s,cap'-l,hci,?_,by omega,by omega,fun h=>by rw[hex h],fun h=>?_,fun h=>?_⟩
        ·simp only[xAa hm,xom,addr_add]
        ·have hsz:s=sz:=by rcases hss with e|e;· exact e
                           ·rw[h]at e;cases e
         subst hsz;have:=hbd h;have:l*s+(cap'-l)*s=cap'*s:=by rw[<-xCs];congr 1;omega
         omega
        ·have:=hoff (by omega);omega
      ·simp at h
     ·split at h
      ·rename_i hc;subst hc;cases h;simp only[VR]at hx;obtain⟨h1,_,a,rfl,ha⟩:=hx;subst h1;have hle:=z4S (xnr 0) e1;have hl:=(q4n (P:=P) (w:=w) hlr hln e2 .sliceB).2;have h0:hh=0:=by omega
       have l0:l=0:=by omega
       subst h0 l0;simp only[Instr.slice,Sem.run_bind,q0l hd,Result.andThen_ok];rw[q3Z hlr hln hhr hhn e1 e2];simp only[Result.andThen_ok,q1j hs,Sem.run_pure];refine⟨_,rfl,?_⟩;simp only[VR];exact⟨xFn,xFn,a,by simp,ha⟩
      ·simp at h
    ·simp at h
   ·simp at h
  ·simp at h
 ·rename_i n e hd;split at h
  ·rename_i a s hs;split at h
   ·rename_i hh e1;split at h
    ·rename_i l e2;cases h;simp only[VR]at hx;obtain⟨ci,hci,rfl⟩:=hx;simp only[Sem.run_bind,q0l hd,Result.andThen_ok,Instr.sureAddr,Sem.run_pure];rw[q3Z hlr hln hhr hhn e1 e2];simp only[Result.andThen_ok,q1j hs];refine⟨_,rfl,?_⟩;have hle:=z4S (xnr n) e1;have hl:=(q4n (P:=P) (w:=w) hlr hln e2 .sliceB).2;simp only[VR,SR];by_cases hm:n=l
     ·exact⟨ci,a.o+ci.d,n-l,hci,by simp[hm],by omega,by omega,fun _=>rfl,by simp,fun h=>by omega⟩
     ·refine⟨ci,a.o+ci.d+l*s,n-l,hci,?_,by omega,by omega,fun _=>rfl,by simp,fun h=>by omega⟩
      simp only[xAa hm,addr_add]
    ·simp at h
   ·simp at h
  ·simp at h
 ·simp at h
theorem q7b {t:TypeId} {x:AV} {x':Value} {lo:Option AV} {lo':Option Value} {hi mx:AV} {hi' mx':Value} {v:AV} (hx:VR p x x') (hlr:∀a,lo=some a->∃v,lo'=some v/\VR p a v) (hln:lo=none->lo'=none)
  (hhr:VR p hi hi') (hmr:VR p mx mx') (h:q2V P t x lo hi mx=some v):Gives P p (Instr.sliceAt t x' lo' (some hi') (some mx')) w v:=by
 unfold q2V at h;unfold Gives Instr.sliceAt;split at h
 ·rename_i e hd;split at h
  ·rename_i a sz _ cap ex s hs;split at h
   ·rename_i mm e0;split at h
    ·rename_i hh e1;split at h
     ·rename_i l e2;split at h
      ·rename_i hss;cases h;simp only[VR,SR]at hx;obtain⟨ci,off,cap',hci,rfl,hlc,hcc,hex,hbd,hoff⟩:=hx;simp only[Sem.run_bind,q0l hd,Result.andThen_ok,Instr.slice];have hb:∀n,(Instr.sliceBounds true n cap' lo' (some hi') (some mx')).run P w=.ok (l,hh,mm) w:=by
        intro n;have a0:=q9i (P:=P) (w:=w) (hi:=some mx) (hi':=some mx') (len:=0) (fun a ha=>by cases ha;exact⟨_,rfl,hmr⟩) (by simp) (j6X hcc e0) .slice3Acap
        have a1:=q9i (P:=P) (w:=w) (hi:=some hi) (hi':=some hi') (len:=0) (fun a ha=>by cases ha;exact⟨_,rfl,hhr⟩) (by simp) e1 .slice3B
        have a2:=(q4n (P:=P) (w:=w) hlr hln e2 .slice3C).1;unfold Instr.sliceBounds;simp only at a0 a1;cases lo' with
        |none=>simp only[Sem.run_bind,xAd,a0,a1,Result.andThen_ok,Sem.run_pure]at a2⊢;cases a2;rfl
        |some b=>simp only at a2;simp only[Sem.run_bind,xAd,a0,a1,Result.andThen_ok,Sem.run_pure,Option.isSome_some,a2]
       rw[hb];simp only[Result.andThen_ok,q1j hs,Sem.run_pure];refine⟨_,rfl,?_⟩;have hm1:=z4S (hi:=some mx) (xBx _) e0;have hle:=z4S (hi:=some hi) (xBx _) e1;have hl:=(q4n (P:=P) (w:=w) hlr hln e2 .sliceB).2;simp only[VR,SR];by_cases hm:mm=l
       ·exact⟨ci,off,mm-l,hci,by simp[hm],by omega,xnr _,fun _=>rfl,by simp,fun h=>by omega⟩
       ·refine⟨ci,off+l*s,mm-l,hci,?_,by omega,xnr _,fun _=>rfl,by simp,fun h=>?_⟩
        ·simp only[xAa hm,xom,addr_add]
        ·have:=hoff (by omega);omega
      ·simp at h
     ·simp at h
    ·simp at h
   ·simp at h
  ·simp at h
 ·simp at h
end
end
section
section
variable {P:Program} {p:Phi} {w:World}
theorem j9s {x:AV} {x':Value} {v:AV} (hx:VR p x x') (h:nnA x=some v) {o:Oper} {xo:Operand} (ho:o.op=.nilCheck xo) {a:Act} (hv:a.eval xo=x') :
  ∃cv,(execOp a.eval o).run P w=.ok (.value cv) w/\VR p v cv:=by
 unfold nnA at h;split at h
 ·cases h;have hx':=hx;simp only[VR]at hx;obtain⟨ci,hci,rfl⟩:=hx;exact⟨_,by simp only[execOp,ho,hv];rfl,hx'⟩
 ·cases h;have hx':=hx;simp only[VR]at hx;obtain⟨ci,rfl,_⟩:=hx;exact⟨_,by simp only[execOp,ho,hv];rfl,hx'⟩
 ·cases h;have hx':=hx;simp only[VR]at hx;obtain⟨_,_,rfl,_⟩:=hx;exact⟨_,by simp only[execOp,ho,hv];rfl,hx'⟩
 ·cases h;have hx':=hx;simp only[VR]at hx;obtain⟨_,_,rfl⟩:=hx;exact⟨_,by simp only[execOp,ho,hv];rfl,hx'⟩
 ·simp at h
theorem j0K {v:Value} {vs:List Value} (h:v.cells=⟨vs⟩):v.cells.size=vs.length:=by rw[h];simp
theorem foldl_set (vs:List Value):∀(off k:Nat) (cs:List Value),off+k+vs.length<=cs.length->
  (vs.zipIdx k).foldl (fun (cs:Array Value) (c:Value×Nat)=>cs.setIfInBounds (off+c.2) c.1) ⟨cs⟩=⟨cs.take (off+k)++vs++cs.drop (off+k+vs.length)⟩:=by
 induction vs with
 |nil=>intro off k cs h;simp
 |cons v vs ih=>
  intro off k cs h;simp only[List.zipIdx_cons,xEl];simp only[xAi]at h;have e:(⟨cs⟩:Array Value).setIfInBounds (off+k) v=⟨cs.set (off+k) v⟩:=by simp[List.setIfInBounds_toArray]
  rw[e,ih off (k+1) (cs.set (off+k) v) (by simp;omega)];congr 1;apply xCv;intro i;simp only[List.getElem?_append,xla0,xlt0,List.length_set,xBw,xBu,xFm,xAi,List.getElem?_cons]
  grind
theorem q6a {place:Nat->Option (Nat×Nat)}:∀{parts:List (Nat×AV)} {parts':List (Nat×Value)},z0o p parts parts'->∀{cs:List AV} {cs':List Value} {r:List AV},VRs p cs cs'->
  q0p place cs parts=some r->∃r',Instr.fill place ⟨cs'⟩ parts'=some ⟨r'⟩/\VRs p r r':=by
 intro parts parts' hp;induction hp with
 |nil=>intro cs cs' r hc h;simp only[q0p,xoi]at h;subst h;exact⟨cs',rfl,hc⟩
 |cons hv ht ih=>
  rename_i i a v as vs;intro cs cs' r hc h;simp only[q0p]at h;split at h
  ·rename_i off size xs hpl hcl;split at h
   ·rename_i hl;split at h
    ·rename_i hle;obtain⟨ys,hy,hys,_⟩:=hv.cells hcl;have hlen:=hys.length;have hclen:=hc.length;have hc2:VRs p (cs.take off++xs++cs.drop (off+size)) (cs'.take off++ys++cs'.drop (off+size)):=((hc.take off).append hys).append (hc.drop _);obtain⟨r',h1,h2⟩:=ih hc2 h;refine⟨r',?_,h2⟩;simp only[Instr.fill,hpl,j0K hy];rw[xAa]
     ·rw[<-h1,hy];congr 1;have:=foldl_set ys off 0 cs' (by omega);simp only[xna,hlen,hl]at this;rw[<-this,Array.zipIdx_toArray,<-Array.foldl_toList]
     ·simp;omega
    ·simp at h
   ·simp at h
  ·simp at h
theorem q2k {t:TypeId} {zs:List AV} (h:q2Y P t=some zs):∃z zs',(zeroValue t).run P w=.ok z w/\z.cells=⟨zs'⟩/\VRs p zs zs'/\zs.all AV.one=true/\
  (∃i,P.info? t=some i/\i.zero=some z):=by
 unfold q2Y at h;cases hi:P.info? t with
 |none=>simp[hi]at h
 |some i=>
  rw[hi]at h;simp only[xAr]at h;cases hz:i.zero with
  |none=>simp[hz]at h
  |some z=>
   rw[hz]at h;simp only at h;obtain⟨a,h1,h2⟩:=be h;obtain⟨vs,h3,h4,h5⟩:=(j9y p h1).cells h2;exact⟨z,vs,by simp[zeroValue,q8t hi,hz],h3,h4,h5,i,rfl,hz⟩
theorem q9s {w:World}:∀{fs:List Field} {ps:List (Nat×Nat)},placesOf P fs=some ps->(fs.mapM fun (f:Field)=>(do pure (f.offset,<-sizeOf f.type):Sem (Nat×Nat))).run P w=.ok ps w
 |[],ps,h=>by simp only[placesOf,xoi]at h;subst h;simp[List.mapM_nil]
 |f::fs,ps,h=>by
  simp only[placesOf]at h;split at h
  ·rename_i n ps' h1 h2;cases h;have:=q9s h2 (w:=w);simp only[List.mapM_cons,Sem.run_bind,q1j h1,Result.andThen_ok,Sem.run_pure,this]
  ·simp at h
theorem z3m {t:TypeId} {parts:List (Nat×AV)} {parts':List (Nat×Value)} (hp:z0o p parts parts') {v:AV} (h:q11 P t parts=some v):Gives P p (Instr.build t ⟨parts'⟩) w v:=by
 unfold q11 at h;unfold Gives Instr.build;split at h
 ·rename_i fields zs hd hz;obtain⟨z,zs',h1,h2,h3,_⟩:=q2k (p:=p) (w:=w) hz;split at h
  ·rename_i ps hps;obtain⟨r,hr,rfl⟩:=xoe.1 h;obtain⟨r',h4,h5⟩:=q6a hp h3 hr;simp only[Sem.run_bind,h1,Result.andThen_ok,q0l hd];rw[Array.mapM_eq_mapM_toList];simp only[Sem.run_map,q9s hps,Result.andThen_ok,h2];have:(fun x=>(ps.toArray)[x]?)=fun (x:Nat)=>ps[x]?:=by funext x;simp
   simp only[this,h4];exact⟨_,rfl,by simp only[VR];exact⟨r',rfl,h5⟩⟩
  ·simp at h
 ·rename_i n e zs hd hz;obtain⟨z,zs',h1,h2,h3,_⟩:=q2k (p:=p) (w:=w) hz;split at h
  ·rename_i s hs;obtain⟨r,hr,rfl⟩:=xoe.1 h;obtain⟨r',h4,h5⟩:=q6a hp h3 hr;simp only[Sem.run_bind,h1,Result.andThen_ok,q0l hd,q1j hs,h2,h4];exact⟨_,rfl,by simp only[VR];exact⟨r',rfl,h5⟩⟩
  ·simp at h
 ·simp at h
theorem q98 {x:AV} {x':Value} {i:Nat} {v:AV} (hx:VR p x x') (h:q0q x i=some v):Gives P p (Instr.extract x' i) w v:=by
 unfold q0q at h;split at h
 ·rename_i vs;simp only[VR]at hx;obtain⟨vs',rfl,hvs⟩:=hx;obtain⟨v',h1,h2⟩:=hvs.get h;have:(⟨vs'⟩:Array Value)[i]? = some v':=by simpa using h1
  exact⟨v',by simp[Instr.extract,this],h2⟩
 ·simp at h
theorem z0c {t:TypeId} {x:AV} {x':Value} {v:AV} (hx:VR p x x') (h:q8o P t x=some v):Gives P p (Instr.makeInterface t x') w v:=by
 unfold q8o at h;cases hd:P.underlying t with
 |none=>simp[hd]at h
 |some d=>
  simp only[hd]at h;refine⟨.iface t x',?_,?_⟩
  ·simp only[Instr.makeInterface,Sem.run_bind,q0l hd,Result.andThen_ok];cases d<;>first|rfl|(simp at h)
  ·cases d<;>simp at h<;>(subst h;simp only[VR];exact⟨x',rfl,hx⟩)
theorem j05 {t:TypeId} {x:AV} {x':Value} {v:AV} (hx:VR p x x') (h:q2e P t x=some v) (ty:TypeId):Gives P p (Builtin.len_ #[t] ty #[x']) w v:=by
 unfold q2e at h;unfold Gives Builtin.len_;split at h
 ·rename_i hd;split at h
  ·simp only[VR]at hx;subst hx;cases h;refine⟨_,by simp[q0l hd];rfl,?_⟩;simp only[VR,goInt,q7c]
  ·simp at h
 ·rename_i n e hd;cases h;refine⟨goInt n,by simp[q0l hd],by simp[VR,goInt]⟩
 ·rename_i e hd;split at h
  ·rename_i a sz len cap ex;cases h;cases a with
   |none=>simp only[VR]at hx;obtain⟨rfl,_,_,rfl,_⟩:=hx;exact⟨goInt 0,by simp[q0l hd],by simp[VR,goInt]⟩
   |some a=>simp only[VR,SR]at hx;obtain⟨_,_,_,_,rfl,_⟩:=hx;exact⟨goInt len,by simp[q0l hd],by simp[VR,goInt]⟩
  ·simp at h
 ·simp at h
theorem j0J {t:TypeId} {x:AV} {x':Value} {v:AV} (hx:VR p x x') (h:j0I P t x=some v) (ty:TypeId):Gives P p (Builtin.cap_ #[t] ty #[x']) w v:=by
 unfold j0I at h;unfold Gives Builtin.cap_;split at h
 ·rename_i e hd;split at h
  ·rename_i a sz len cap;cases h;cases a with
   |none=>simp only[VR]at hx;obtain⟨_,rfl,_,rfl,_⟩:=hx;exact⟨goInt 0,by simp[q0l hd],by simp[VR,goInt]⟩
   |some a=>simp only[VR,SR]at hx;obtain⟨_,_,cap',_,rfl,_,_,hex,_⟩:=hx;rw[<-hex xFn];exact⟨goInt cap',by simp[q0l hd],by simp[VR,goInt]⟩
  ·simp at h
 ·simp at h
theorem j08 {x y:AV} {x' y':Value} {v:AV} (hx:VR p x x') (hy:VR p y y') (h:a6E x y=some v) (ts:Array TypeId) (ty:TypeId):Gives P p (Builtin.min_ ts ty #[x',y']) w v:=by
 unfold a6E at h;split at h
 ·simp only[VR]at hx hy;subst hx hy;cases h;exact⟨_,rfl,by simp[VR]⟩
 ·simp at h
theorem j06 {x y:AV} {x' y':Value} {v:AV} (hx:VR p x x') (hy:VR p y y') (h:b0K x y=some v) (ts:Array TypeId) (ty:TypeId):Gives P p (Builtin.max_ ts ty #[x',y']) w v:=by
 unfold b0K at h;split at h
 ·simp only[VR]at hx hy;subst hx hy;cases h;exact⟨_,rfl,by simp[VR]⟩
 ·simp at h
theorem Gives.value {s:Sem Value} {v:AV} (h:Gives P p s w v):∃cv,(do pure (Next.value (<-s)):Sem Next).run P w=.ok (.value cv) w/\VR p v cv:=by
 obtain⟨cv,h1,h2⟩:=h;exact⟨cv,by simp[h1],h2⟩
theorem q1q {a:Act} {b:Builtin} {xs:List Operand} {ts:Array TypeId} {ty:TypeId} :
  (do let d<-resolve a.eval {callee:=.builtin b,args:=⟨xs⟩,argTypes:=ts} ty;invoke d.target d.args:Sem Next).run P w =
   (builtin b ts ty ((⟨xs⟩:Array Operand).map fun | .const _=>true | _=>false) (⟨xs.map a.eval⟩)).run P w:=by
 simp only[resolve,Sem.run_bind,Sem.run_pure,Result.andThen_ok,invoke];congr 2;simp
theorem z0Y {o:Oper} {t:List AV} {a:Act} (ht:VRs p t a.tmps.toList) (hg:∀g,g<P.globals.size->∃n,p g=some ⟨g,0,n,none⟩) {v:AV} (h:q5f P o.op t=some v) :
  ∃cv,(execOp a.eval o).run P w=.ok (.value cv) w/\VR p v cv:=by
 have E:∀{x:Operand} {v:AV},ev P t x=some v->VR p v (a.eval x):=fun h=>q29 ht hg h
 have ho:∃op,o.op=op:=⟨_,rfl⟩;obtain⟨op,ho⟩:=ho;rw[ho]at h;unfold q5f at h;split at h
 ·exact⟨_,by simp only[execOp,ho];rfl,E h⟩
 ·exact⟨_,by simp only[execOp,ho];rfl,E h⟩
 ·obtain⟨c,h1,h⟩:=be h;obtain⟨x,h2,h⟩:=be h;obtain⟨y,h3,h⟩:=be h;unfold z0d at h;have hc:=E h1;split at h
  ·simp only[VR]at hc;cases h;exact⟨_,by simp only[execOp,ho,hc];rfl,E h2⟩
  ·simp only[VR]at hc;cases h;exact⟨_,by simp only[execOp,ho,hc];rfl,E h3⟩
  ·simp at h
 ·obtain⟨x,h1,h⟩:=be h;exact j9s (E h1) h ho rfl
 ·obtain⟨x,h1,h⟩:=be h;obtain⟨y,h2,h⟩:=be h;simp only[execOp,ho];exact(j0G (_yt:=0) (E h1) (E h2) h).value
 ·obtain⟨x,h1,h⟩:=be h;simp only[execOp,ho];exact(a0B (E h1) h).value
 ·obtain⟨x,h1,h⟩:=be h;simp only[execOp,ho];exact(z6I (E h1) h).value
 ·obtain⟨x,h1,h⟩:=be h;simp only[execOp,ho];exact(q7Z (E h1) h).value
 ·obtain⟨x,h1,h⟩:=be h;simp only[execOp,ho];exact(z3R (E h1) h).value
 ·obtain⟨x,h1,h⟩:=be h;obtain⟨y,h2,h⟩:=be h;simp only[execOp,ho];exact(q71 (E h1) (E h2) h).value
 ·obtain⟨x,h1,h⟩:=be h;obtain⟨y,h2,h⟩:=be h;simp only[execOp,ho];exact(z4T (E h1) (E h2) h).value
 ·obtain⟨x,h1,h⟩:=be h;simp only[execOp,ho];split at h
  ·exact(q4a (E h1) (by simp) (by simp) (by simp) (by simp) h).value
  ·obtain⟨l,h2,h⟩:=be h;exact(q4a (E h1) (by rintro _ ⟨⟩;exact⟨_,rfl,E h2⟩) (by simp) (by simp) (by simp) h).value
  ·obtain⟨l,h2,h⟩:=be h;exact(q4a (E h1) (by simp) (by simp) (by rintro _ ⟨⟩;exact⟨_,rfl,E h2⟩) (by simp) h).value
  ·obtain⟨l,h2,h⟩:=be h;obtain⟨u,h3,h⟩:=be h;exact(q4a (E h1) (by rintro _ ⟨⟩;exact⟨_,rfl,E h2⟩) (by simp) (by rintro _ ⟨⟩;exact⟨_,rfl,E h3⟩) (by simp) h).value
 ·obtain⟨x,h1,h⟩:=be h;obtain⟨u,h2,h⟩:=be h;obtain⟨mx,h3,h⟩:=be h;simp only[execOp,ho];split at h
  ·exact(q7b (lo':=none) (E h1) (by simp) (by simp) (E h2) (E h3) h).value
  ·obtain⟨l,h4,h⟩:=be h;exact(q7b (E h1) (by rintro _ ⟨⟩;exact⟨_,rfl,E h4⟩) (by simp) (E h2) (E h3) h).value
 ·obtain⟨x,h1,h⟩:=be h;simp only[execOp,ho];exact(q98 (E h1) h).value
 ·obtain⟨x,h1,h⟩:=be h;simp only[execOp,ho];exact(z0c (E h1) h).value
 ·rename_i f first cap
  obtain⟨x,h1,h⟩:=be h;obtain⟨y,h2,h⟩:=be h;cases h;refine⟨.func f (first.map a.eval) (cap.map a.eval),by simp only[execOp,ho];rfl,?_⟩
  simp only[VR];exact⟨_,_,by rw[show first.map a.eval=⟨first.toList.map a.eval⟩ from by apply xEy;simp,show cap.map a.eval=⟨cap.toList.map a.eval⟩ from by apply xEy;simp],q8V ht hg h1,q8V ht hg h2⟩
 ·rename_i s parts;obtain⟨x,h1,h⟩:=be h;simp only[execOp,ho];have:=z3m (w:=w) (q7q ht hg h1) h;have e:(parts.map fun (i,x)=>(i,a.eval x))=⟨parts.toList.map fun (i,x)=>(i,a.eval x)⟩:=by apply xEy;simp
  rw[<-e]at this;exact this.value
 ·rename_i x s;obtain⟨x,h1,h⟩:=be h;simp only[execOp,ho];rw[q1q];exact(j05 (E h1) h o.type).value
 ·obtain⟨x,h1,h⟩:=be h;simp only[execOp,ho];rw[q1q];exact(j0J (E h1) h o.type).value
 ·obtain⟨x,h1,h⟩:=be h;obtain⟨y,h2,h⟩:=be h;simp only[execOp,ho];rw[q1q];exact(j08 (E h1) (E h2) h _ o.type).value
 ·obtain⟨x,h1,h⟩:=be h;obtain⟨y,h2,h⟩:=be h;simp only[execOp,ho];rw[q1q];exact(j06 (E h1) (E h2) h _ o.type).value
 ·simp at h
end
end
end Go.Abs
