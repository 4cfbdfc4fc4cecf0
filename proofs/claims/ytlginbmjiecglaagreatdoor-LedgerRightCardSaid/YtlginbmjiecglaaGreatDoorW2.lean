/- Texts of one claim, put together. -/
import Derived.Test.YtlginbmjiecglaaGreatDoorW1
import Derived.Laws.Strings2
import Derived.Laws.Entries
namespace Go.Abs
section
open Go
section
variable {P:Program} {p:Phi} {w:World}
def Gives (P:Program) (p:Phi) (s:Sem Value) (w:World) (v:AV):Prop:=∃cv,s.run P w=.ok cv w/\VR p v cv
theorem q0g {t:TypeId} {d:TypeDesc} (h:P.underlying t=some d) (w:World):(underlying t).run P w=.ok d w:=run_underlying h w
theorem q6y {t:TypeId} {i:TypeInfo} (h:P.info? t=some i) (w:World):(typeInfo t).run P w=.ok i w:=by simp[typeInfo,h]
theorem q08 {t:TypeId} {n:Nat} (h:szT P t=some n) (w:World):(sizeOf t).run P w=.ok n w:=by
 unfold szT at h;cases hi:P.info? t with
 |none=>simp[hi]at h
 |some i=>rw[hi]at h;cases h;simp[sizeOf,q6y hi]
theorem q7j {t:TypeId} {d:TypeDesc} (h:P.underlying t=some d) (w:World):(isAgg t).run P w=.ok (z4c P t) w:=by
 simp only[isAgg,Sem.run_bind,q0g h,Result.andThen_ok,z4c,h];cases d<;>rfl
theorem q2s {t:List AV} {a:Act} (ht:VRs p t a.tmps.toList) (hg:∀g,g<P.globals.size->∃n,p g=some ⟨g,0,n⟩) {x:Operand} {v:AV} (h:ev P t x=some v):VR p v (a.eval x):=by
 cases x with
 |tmp i=>
  simp only[ev,q70,xoi]at h;subst h;simp only[Act.eval];cases e:t[i]? with
  |none=>rw[List.getD_eq_getElem?_getD,e];simp[VR]
  |some b=>
   obtain⟨v,h1,h2⟩:=ht.get e;rw[List.getD_eq_getElem?_getD,e];have:a.tmps.getD i undef=v:=by
    rw[Array.getD_eq_getD_getElem?,<-Array.getElem?_toList,h1];rfl
   rw[this];exact h2
 |const c=>exact z9Z p h
 |global g=>
  simp only[ev]at h;split at h
  ·rename_i hlt;cases h;obtain⟨n,hn⟩:=hg g hlt;simp only[VR,Act.eval];exact⟨_,hn,rfl⟩
  ·simp at h
 |func f=>simp only[ev,xoi]at h;subst h;simp only[VR,Act.eval];exact⟨[],[],rfl,by simp[VRs],by simp[VRs]⟩
theorem q6P {t:List AV} {a:Act} (ht:VRs p t a.tmps.toList) (hg:∀g,g<P.globals.size->∃n,p g=some ⟨g,0,n⟩):∀{xs:List Operand} {vs:List AV},evs P t xs=some vs->VRs p vs (xs.map a.eval)
 |[],vs,h=>by simp only[evs,xoi]at h;subst h;simp[VRs]
 |x::xs,vs,h=>by
  simp only[evs]at h;split at h
  ·rename_i v vs' h1 h2;cases h;simp only[VRs,List.map_cons];exact⟨_,_,rfl,q2s ht hg h1,q6P ht hg h2⟩
  ·simp at h
inductive q7H (p:Phi):List (Nat×AV)->List (Nat×Value)->Prop
 |nil:q7H p [] []
 |cons {i:Nat} {a:AV} {v:Value} {as:List (Nat×AV)} {vs:List (Nat×Value)} (h:VR p a v) (t:q7H p as vs):q7H p ((i,a)::as) ((i,v)::vs)
theorem q5H {t:List AV} {a:Act} (ht:VRs p t a.tmps.toList) (hg:∀g,g<P.globals.size->∃n,p g=some ⟨g,0,n⟩):∀{xs:List (Nat×Operand)} {vs:List (Nat×AV)},q3q P t xs=some vs->
  q7H p vs (xs.map fun (i,x)=>(i,a.eval x))
 |[],vs,h=>by simp only[q3q,xoi]at h;subst h;exact .nil
 |(i,x)::xs,vs,h=>by
  simp only[q3q]at h;split at h
  ·rename_i v vs' h1 h2;cases h;exact .cons (q2s ht hg h1) (q5H ht hg h2)
  ·simp at h
theorem bytesLess_eq:∀(x y:List UInt8),Op.bytesLess x y=q0c x y
 | _,[]=>by cases ‹List UInt8›<;>rfl
 |[],_::_=>rfl
 |a::x,b::y=>by
  simp only[Op.bytesLess,q0c,bytesLess_eq x y];congr 1
theorem z5P (s:List UInt8):(ByteArray.mk ⟨s⟩).toList=s:=by rw[ByteArray.toList_eq]
theorem q5s (s:List UInt8):(ByteArray.mk ⟨s⟩).size=s.length:=rfl
theorem z5O (x y:List UInt8):(ByteArray.mk ⟨x⟩++ByteArray.mk ⟨y⟩:ByteArray)=⟨⟨x++y⟩⟩:=by
 apply ByteArray.ext;rw[ByteArray.data_append];simp
theorem z5b {op:BinOp} {k:IntKind} {x y:Int} {v:AV} (h:q65 op k x y=some v) :
  Gives P p (match op with | .add | .sub | .mul=>Op.intArith op k x y | .quo | .rem=>Op.intDiv op k x y | .and | .or | .xor | .andNot=>Op.intBits op k x y | _=>Op.intCmp op x y) w v:=by
 unfold Gives;cases op<;>simp only[q65]at h
 case quo=>split at h<;>cases h;rename_i hy;exact⟨.int k (k.wrap (x.tdiv y)),by simp[Op.intDiv,hy],by simp[VR]⟩
 case rem=>split at h<;>cases h;rename_i hy;exact⟨.int k (x.tmod y),by simp[Op.intDiv,hy],by simp[VR]⟩
 all_goals (first|(cases h;done)|(cases h;exact⟨_,rfl,by simp[VR]⟩))
theorem z5N {op:BinOp} {x y:List UInt8} {v:AV} (h:a0J op x y=some v):Gives P p (Op.stringOp op ⟨⟨x⟩⟩ ⟨⟨y⟩⟩) w v:=by
 unfold Gives Op.stringOp;simp only[z5P,bytesLess_eq,q5s];cases op<;>simp only[a0J]at h
 case add=>
  split at h
  ·rename_i hle;cases h;refine⟨.string (⟨⟨x⟩⟩++⟨⟨y⟩⟩),?_,?_⟩
   ·simp only[];rw[if_neg]
    ·rfl
    ·have:IntKind.i64.max=9223372036854775807:=by decide
     rw[this];omega
   ·simp only[VR,z5O]
  ·simp at h
 all_goals first
  |(cases h;done)
  |(cases h;exact⟨_,rfl,by simp[VR]⟩)
theorem j0M {op:BinOp} (hop:op=.shl\/op=.shr) {k yk:IntKind} {x y:Int} {v:AV} (h:shA op k x y=some v):Gives P p (Op.shift op k x yk y) w v:=by
 unfold shA at h;split at h
 ·simp at h
 ·rename_i hy;unfold Gives Op.shift;rw[if_neg hy];rcases hop with rfl|rfl<;>(simp only at h;cases h;exact⟨_,rfl,by simp[VR]⟩)
theorem q1g {t:TypeId} {cs:List AV} {cs':List Value} (hcs:VRs p cs cs') {off:Nat} {v:AV} (h:q9s P t cs off=some v) :
  Gives P p (part t ⟨cs'⟩ off) w v:=by
 unfold q9s at h;split at h
 ·simp at h
 rename_i d hd;unfold Gives part;simp only[Sem.run_bind,q7j hd,Result.andThen_ok];split at h
 ·rename_i ha;split at h
  ·rename_i n hn;split at h
   ·rename_i hle;cases h;simp only[ha,if_true,Sem.run_bind,q08 hn,Result.andThen_ok];refine⟨_,rfl,?_⟩;simp only[VR];refine⟨(cs'.drop off).take n,?_,(hcs.drop off).take n⟩;congr 1;apply Array.ext';simp[List.extract_eq_take_drop,Nat.add_sub_cancel_left]
   ·simp at h
  ·simp at h
 ·rename_i ha;simp only[ha];obtain⟨v',h1,h2⟩:=hcs.get h;have:(⟨cs'⟩:Array Value)[off]? = some v':=by simpa using h1
  simp only[this,xbq,if_false];exact⟨v',rfl,h2⟩
def z2v (P:Program) (s:Sem Bool) (w:World) (b:Bool):Prop:=s.run P w=.ok b w
def q7O (n:Nat) (xs ys:Array Value) (f:Field) (_:Option Bool×Unit):Sem (ForInStep (Option Bool×Unit)):=
 if f.name = "_" then pure (ForInStep.yield (none, ()))
 else do
  let a<-part f.type xs f.offset
  let b<-part f.type ys f.offset
  let r<-Op.equalIn n f.type a b
  if r=false then pure (ForInStep.done (some false,())) else pure (ForInStep.yield (none,()))
def q90 (n:Nat) (elem:TypeId) (k:Nat) (xs ys:Array Value) (i:Nat) (_:Option Bool×Unit):Sem (ForInStep (Option Bool×Unit)):=do
  let a<-part elem xs (i*k)
  let b<-part elem ys (i*k)
  let r<-Op.equalIn n elem a b
  if r=false then pure (ForInStep.done (some false,())) else pure (ForInStep.yield (none,()))
theorem z6L {d:Nat} {t:TypeId} {a c:AV} {b:Bool} (h:eqA P d t a c=some b):∃dd,P.underlying t=some dd:=by
 cases e:P.underlying t with
 |some dd=>exact⟨dd,rfl⟩
 |none=>
  cases d with
  |zero=>simp[eqA]at h
  |succ d=>simp[eqA,e]at h
theorem q7y {n d:Nat}
  (ih:∀{t:TypeId} {x y:AV} {x' y':Value} {b:Bool},VR p x x'->VR p y y'->eqA P d t x y=some b->z2v P (Op.equalIn n t x' y') w b)
  {xs ys:List AV} {xs' ys':List Value} (hx:VRs p xs xs') (hy:VRs p ys ys') :
  ∀{fs:List Field} {b:Bool},eqFields P (eqA P d) fs xs ys=some b->
  ∃r,(forIn fs (none,()) (q7O n ⟨xs'⟩ ⟨ys'⟩)).run P w=.ok r w/\r.1.getD true=b:=by
 intro fs;induction fs with
 |nil=>intro b h;simp only[eqFields,xoi]at h;subst h;exact⟨(none,()),rfl,rfl⟩
 |cons f fs ih2=>
  intro b h;simp only[eqFields]at h;rw[List.forIn_cons];by_cases hn : f.name = "_"
  ·rw[if_pos hn]at h;obtain⟨r,h1,h2⟩:=ih2 h;refine⟨r,?_,h2⟩;simp only[q7O,hn,if_true,Sem.run_bind,Sem.run_pure,Result.andThen_ok];exact h1
  ·rw[if_neg hn]at h;split at h
   ·rename_i a c ha hc;split at h
    ·rename_i he;obtain⟨a',ha1,ha2⟩:=q1g (w:=w) hx ha;obtain⟨c',hc1,hc2⟩:=q1g (w:=w) hy hc;have h3:(Op.equalIn n f.type a' c').run P w=.ok true w:=ih ha2 hc2 he;obtain⟨r,h1,h2⟩:=ih2 h;refine⟨r,?_,h2⟩;simp only[q7O,hn,if_false,Sem.run_bind,ha1,hc1,h3,Result.andThen_ok,Bool.true_eq_false,Sem.run_pure];exact h1
    ·rename_i he;cases h;obtain⟨a',ha1,ha2⟩:=q1g (w:=w) hx ha;obtain⟨c',hc1,hc2⟩:=q1g (w:=w) hy hc;have h3:(Op.equalIn n f.type a' c').run P w=.ok false w:=ih ha2 hc2 he;refine⟨(some false,()),?_,rfl⟩;simp only[q7O,hn,if_false,Sem.run_bind,ha1,hc1,h3,Result.andThen_ok,if_true,Sem.run_pure]
    ·simp at h
   ·simp at h
theorem q8C {n d:Nat}
  (ih:∀{t:TypeId} {x y:AV} {x' y':Value} {b:Bool},VR p x x'->VR p y y'->eqA P d t x y=some b->z2v P (Op.equalIn n t x' y') w b)
  {xs ys:List AV} {xs' ys':List Value} (hx:VRs p xs xs') (hy:VRs p ys ys') {elem:TypeId} {k:Nat} :
  ∀{len i:Nat} {b:Bool},q3X P (eqA P d) elem k xs ys len i=some b->
  ∃r,(forIn (List.range' i len) (none,()) (q90 n elem k ⟨xs'⟩ ⟨ys'⟩)).run P w=.ok r w/\r.1.getD true=b:=by
 intro len;induction len with
 |zero=>intro i b h;simp only[q3X,xoi]at h;subst h;exact⟨(none,()),rfl,rfl⟩
 |succ len ih2=>
  intro i b h;simp only[q3X]at h;rw[List.range'_succ,List.forIn_cons];split at h
  ·rename_i a c ha hc;split at h
   ·rename_i he;obtain⟨a',ha1,ha2⟩:=q1g (w:=w) hx ha;obtain⟨c',hc1,hc2⟩:=q1g (w:=w) hy hc;have h3:(Op.equalIn n elem a' c').run P w=.ok true w:=ih ha2 hc2 he;obtain⟨r,h1,h2⟩:=ih2 h;refine⟨r,?_,h2⟩;simp only[q90,Sem.run_bind,ha1,hc1,h3,Result.andThen_ok,Bool.true_eq_false,if_false,Sem.run_pure];exact h1
   ·rename_i he;cases h;obtain⟨a',ha1,ha2⟩:=q1g (w:=w) hx ha;obtain⟨c',hc1,hc2⟩:=q1g (w:=w) hy hc;have h3:(Op.equalIn n elem a' c').run P w=.ok false w:=ih ha2 hc2 he;refine⟨(some false,()),?_,rfl⟩;simp only[q90,Sem.run_bind,ha1,hc1,h3,Result.andThen_ok,if_true,Sem.run_pure]
   ·simp at h
  ·simp at h
theorem q7z {t:TypeId} {n:Nat} {fields:Array Field} (hd:P.underlying t=some (.struct fields)) (hs:P.stoodInHeld t=false) (xs ys:Array Value) :
  (Op.equalIn (n+1) t (.agg xs) (.agg ys)).run P w=((forIn fields.toList (none,()) (q7O n xs ys)).run P w).andThen fun r w'=>.ok (r.1.getD true) w':=by
 simp only[Op.equalIn,Sem.run_bind,q0g hd,Result.andThen_ok,run_program,hs];rw[Array.forIn_toList];unfold q7O;simp;generalize Sem.run P _ w=x;cases x with
 |ok a w=>rcases a with ⟨_ | _,_⟩<;>rfl
 |halt=>rfl
theorem q8D {t:TypeId} {n len elem k:Nat} (hd:P.underlying t=some (.array len elem)) (hk:szT P elem=some k) (xs ys:Array Value) :
  (Op.equalIn (n+1) t (.agg xs) (.agg ys)).run P w=((forIn (List.range' 0 len) (none,()) (q90 n elem k xs ys)).run P w).andThen fun r w'=>.ok (r.1.getD true) w':=by
 simp only[Op.equalIn,Sem.run_bind,q0g hd,Result.andThen_ok,q08 hk];rw[Std.Legacy.Range.forIn_eq_forIn_range'];unfold q90;simp[Std.Legacy.Range.size];generalize Sem.run P _ w=x;cases x with
 |ok a w=>rcases a with ⟨_ | _,_⟩<;>rfl
 |halt=>rfl
theorem z6K:∀{d n:Nat} (_:d<=n) {t:TypeId} {x y:AV} {x' y':Value} {b:Bool},VR p x x'->VR p y y'->eqA P d t x y=some b->z2v P (Op.equalIn n t x' y') w b:=by
 intro d;induction d with
 |zero=>intro n _ t x y x' y' b _ _ h;simp[eqA]at h
 |succ d ih=>
  intro n hn t x y x' y' b hx hy h;obtain⟨n,rfl⟩:∃j,n=j+1:=⟨n-1,by omega⟩;obtain⟨dd,hdd⟩:=z6L h;unfold z2v;simp only[eqA,hdd]at h;cases dd with
  |struct fields=>
   simp only at h;split at h
   ·simp at h
   ·rename_i hs;cases x<;>simp only[q8o,Option.bind_none,Option.bind_some]at h<;>try (simp at h;done)
    cases y<;>simp only[Option.bind_none,Option.bind_some]at h<;>try (simp at h;done)
    simp only[VR]at hx hy;obtain⟨xs',rfl,hx⟩:=hx;obtain⟨ys',rfl,hy⟩:=hy;rw[q7z hdd (by simpa using hs)];obtain⟨r,h1,h2⟩:=q7y (n:=n) (fun a b c=>ih (by omega) a b c) hx hy h
    rw[h1];simp[h2]
  |array len elem=>
   simp only at h;cases x<;>simp only[q8o,Option.bind_none,Option.bind_some]at h<;>try (simp at h;done)
   cases y<;>simp only[Option.bind_none,Option.bind_some]at h<;>try (simp at h;done)
   cases hk:szT P elem with
   |none=>simp[hk]at h
   |some k=>
    rw[hk]at h;simp only[VR]at hx hy;obtain⟨xs',rfl,hx⟩:=hx;obtain⟨ys',rfl,hy⟩:=hy;rw[q8D hdd hk];obtain⟨r,h1,h2⟩:=q8C (n:=n) (fun a b c=>ih (by omega) a b c) hx hy h
    rw[h1];simp[h2]
  |bool=>
   simp only[z6M]at h;split at h
   ·simp only[VR]at hx hy;subst hx hy;cases h;simp[Op.equalIn,q0g hdd]
   ·simp at h
  |int k=>
   simp only[j7d]at h;split at h
   ·simp only[VR]at hx hy;subst hx hy;split at h
    ·rename_i hk;cases h;simp[Op.equalIn,q0g hdd,hk]
    ·simp at h
   ·simp at h
  |string=>
   simp only[j7g]at h;split at h
   ·simp only[VR]at hx hy;subst hx hy;cases h;simp only[Op.equalIn,Sem.run_bind,q0g hdd,Result.andThen_ok,Sem.run_pure];congr 1;rename_i s s';rw[Bool.eq_iff_iff];simp only[beq_iff_eq];rw[show ((ByteArray.mk ⟨s⟩)==(ByteArray.mk ⟨s'⟩))=((⟨s⟩:Array UInt8)==⟨s'⟩) from rfl,beq_iff_eq];exact⟨fun e=>by injection e,fun e=>by rw[e]⟩
   ·simp at h
  |pointer e=>
   simp only[j7f]at h;split at h
   ·simp only[VR]at hx;subst hx;cases h;rename_i q;cases q with
    |none=>simp only[VR]at hy;subst hy;simp[Op.equalIn,q0g hdd]
    |some q=>simp only[VR]at hy;obtain⟨ci,_,rfl⟩:=hy;simp[Op.equalIn,q0g hdd]
   ·simp only[VR]at hx hy;subst hy;cases h;obtain⟨ci,_,rfl⟩:=hx;simp[Op.equalIn,q0g hdd]
   ·simp at h
  |slice e=>
   simp only[a8h]at h;split at h
   ·rename_i q _ _ _ _;simp only[VR]at hx;obtain⟨_,_,rfl⟩:=hx;cases h;cases q with
    |none=>simp only[VR]at hy;obtain⟨_,_,rfl⟩:=hy;simp[Op.equalIn,q0g hdd]
    |some q=>simp only[VR,SR]at hy;obtain⟨_,_,_,_,rfl,_⟩:=hy;simp[Op.equalIn,q0g hdd]
   ·simp only[VR,SR]at hx hy;obtain⟨_,_,rfl⟩:=hy;cases h;obtain⟨_,_,_,_,rfl,_⟩:=hx;simp[Op.equalIn,q0g hdd]
   ·simp at h
  |map k e=>
   simp only[j7e]at h;split at h
   ·simp only[VR]at hx;subst hx;cases h;rename_i q;cases q with
    |none=>simp only[VR]at hy;subst hy;simp[Op.equalIn,q0g hdd]
    |some q=>simp only[VR]at hy;obtain⟨ci,_,rfl⟩:=hy;simp[Op.equalIn,q0g hdd]
   ·simp only[VR]at hx hy;subst hy;cases h;obtain⟨ci,_,rfl⟩:=hx;simp[Op.equalIn,q0g hdd]
   ·simp at h
  |func a b c=>
   simp only[a8g]at h;split at h
   ·simp only[VR]at hx hy;subst hx hy;cases h;simp[Op.equalIn,q0g hdd]
   ·simp only[VR]at hx hy;subst hx;obtain⟨_,_,rfl,_⟩:=hy;cases h;simp[Op.equalIn,q0g hdd]
   ·simp only[VR]at hx hy;subst hy;obtain⟨_,_,rfl,_⟩:=hx;cases h;simp[Op.equalIn,q0g hdd]
   ·simp at h
  |interface ms=>
   simp only[z1N]at h;split at h
   ·simp only[VR]at hx hy;subst hx;obtain⟨_,rfl,_⟩:=hy;cases h;simp[Op.equalIn,q0g hdd]
   ·simp only[VR]at hx hy;subst hy;obtain⟨_,rfl,_⟩:=hx;cases h;simp[Op.equalIn,q0g hdd]
   ·simp at h
  | _=>simp at h
end
end
section
open Go
section
variable {P:Program} {p:Phi} {w:World}
theorem q6O (d:Nat) (t:TypeId) (y:AV):eqA P d t .undef y=none:=by
 cases d with
 |zero=>rfl
 |succ d=>simp only[eqA];split<;>first|rfl|(split<;>rfl)
theorem q4U (d:Nat) (t:TypeId):eqA P d t .nilIface .undef=none:=by
 cases d with
 |zero=>rfl
 |succ d=>simp only[eqA];split<;>first|rfl|(split<;>rfl)
theorem q6a (d:Nat) (t:TypeId):eqA P d t .nilIface .nilIface=none:=by
 cases d with
 |zero=>rfl
 |succ d=>simp only[eqA];split<;>first|rfl|(split<;>rfl)
theorem q6F {x:AV} (h:VR p x .nilIface):x=.undef\/x=.nilIface:=by
 cases x with
 |undef=>exact .inl rfl
 |nilIface=>exact .inr rfl
 |ptr a=>cases a<;>simp[VR]at h
 |sl a=>cases a<;>simp[VR,SR]at h
 |map a=>cases a<;>simp[VR]at h
 | _=>simp[VR]at h
theorem a1l {x:AV} {cs:Array Value} (h:VR p x (.agg cs)):x=.undef\/∃xs,x=.agg xs:=by
 cases x with
 |undef=>exact .inl rfl
 |agg xs=>exact .inr ⟨xs,rfl⟩
 |ptr a=>cases a<;>simp[VR]at h
 |sl a=>cases a<;>simp[VR,SR]at h
 |map a=>cases a<;>simp[VR]at h
 | _=>simp[VR]at h
theorem q4I {op:BinOp} {t:TypeId} {xo yo:Operand} {x y:Value} (h1:¬(x=.nilIface/\y=.nilIface)) (h2:(∃cs,x=.agg cs)->P.eqGuardType P.depth t=false) :
  (eqGuard op t xo yo x y).run P w=.ok () w:=by
 unfold eqGuard;by_cases hop:op=.eql\/op=.neq
 ·have:(!(match op with | .eql | .neq=>true | _=>false))=false:=by rcases hop with rfl|rfl<;>rfl
  cases x with
  |nilIface=>
   cases y with
   |nilIface=>exact absurd ⟨rfl,rfl⟩ h1
   | _=>rcases hop with rfl|rfl<;>rfl
  |agg cs=>
   cases y with
   |agg ds=>rcases hop with rfl|rfl<;>simp[h2 ⟨cs,rfl⟩]
   | _=>rcases hop with rfl|rfl<;>rfl
  | _=>rcases hop with rfl|rfl<;>rfl
 ·cases op<;>first|rfl|(exact absurd (.inl rfl) hop)|(exact absurd (.inr rfl) hop)
theorem q91 {op:BinOp} {neg:Bool} {t:TypeId} {x y:AV} {x' y':Value} {v:AV} (hx:VR p x x') (hy:VR p y y') (h:eqT P neg t x y=some v) {xo yo:Operand} :
  (eqGuard op t xo yo x' y').run P w=.ok () w/\∃b,(Op.equal t x' y').run P w=.ok b w/\v=.bool (if neg then !b else b):=by
 unfold eqT at h;split at h
 ·rename_i b hb;cases h;split at hb
  ·simp at hb
  ·rename_i hagg;refine⟨q4I ?_ ?_,b,z6K (n:=10000) (by omega) hx hy hb,rfl⟩
   ·rintro⟨rfl,rfl⟩
    rcases q6F hx with rfl|rfl
    ·rw[q6O]at hb;simp at hb
    ·rcases q6F hy with rfl|rfl
     ·rw[q4U]at hb;simp at hb
     ·rw[q6a]at hb;simp at hb
   ·rintro⟨cs,rfl⟩
    rcases a1l hx with rfl|⟨xs,rfl⟩
    ·rw[q6O]at hb;simp at hb
    ·simpa[z9v]using hagg
 ·simp at h
theorem binOp_eql {t:TypeId} {x y:AV} {x' y':Value} (hx:VR p x x') (hy:VR p y y') (hn:x≠.undef) (hy0:y≠.undef) (h1:∀k a k' b,¬(x=.int k a/\y=.int k' b)) (h2:∀a b,¬(x=.str a/\y=.str b)) :
  binOp .eql t x' y'=(do pure (.bool (<-Op.equal t x' y')))/\binOp .neq t x' y'=(do pure (.bool (!(<-Op.equal t x' y')))):=by
 have ex:∀{x:AV} {x':Value},VR p x x'->x≠.undef->(∃k a,x'=.int k a/\x=.int k a)\/(∃s,x'=.string ⟨⟨s⟩⟩/\x=.str s)\/((∀k a,x'≠.int k a)/\(∀s,x'≠.string s)/\(∀k a,x'≠.float k a)/\(∀k a b,x'≠.complex k a b)):=by
  intro x x' h hn;cases x with
  |undef=>exact absurd rfl hn
  |int k a=>simp only[VR]at h;exact .inl ⟨k,a,h,rfl⟩
  |str s=>simp only[VR]at h;exact .inr (.inl ⟨s,h,rfl⟩)
  |bool b=>simp only[VR]at h;subst h;simp
  |nilFn=>simp only[VR]at h;subst h;simp
  |nilIface=>simp only[VR]at h;subst h;simp
  |ptr a=>cases a<;>simp only[VR]at h<;>first|(subst h;simp;done)|(obtain⟨_,_,rfl⟩:=h;simp)
  |map a=>cases a<;>simp only[VR]at h<;>first|(subst h;simp;done)|(obtain⟨_,_,rfl⟩:=h;simp)
  |sl a=>cases a<;>simp only[VR,SR]at h<;>first|(obtain⟨_,_,rfl⟩:=h;simp;done)|(obtain⟨_,_,_,_,rfl,_⟩:=h;simp)
  |fn=>simp only[VR]at h;obtain⟨_,_,rfl,_⟩:=h;simp
  |yld=>simp only[VR]at h;obtain⟨_,_,rfl⟩:=h;simp
  |iface=>simp only[VR]at h;obtain⟨_,rfl,_⟩:=h;simp
  |agg=>simp only[VR]at h;obtain⟨_,rfl,_⟩:=h;simp
  |tup=>simp only[VR]at h;obtain⟨_,rfl,_⟩:=h;simp
 rcases ex hx hn with ⟨k,a,rfl,rfl⟩|⟨s,rfl,rfl⟩|⟨i1,i2,i3,i4⟩
 ·rcases ex hy hy0 with ⟨k',b,rfl,rfl⟩|⟨s',rfl,rfl⟩|⟨j1,j2,j3,j4⟩
  ·exact absurd ⟨rfl,rfl⟩ (h1 _ _ _ _)
  ·exact⟨rfl,rfl⟩
  ·cases y'<;>first|exact⟨rfl,rfl⟩|exact absurd rfl (j1 _ _)
 ·rcases ex hy hy0 with ⟨k',b,rfl,rfl⟩|⟨s',rfl,rfl⟩|⟨j1,j2,j3,j4⟩
  ·exact⟨rfl,rfl⟩
  ·exact absurd ⟨rfl,rfl⟩ (h2 _ _)
  ·cases y'<;>first|exact⟨rfl,rfl⟩|exact absurd rfl (j2 _)
 ·cases x'<;>first
   |exact absurd rfl (i1 _ _)
   |exact absurd rfl (i2 _)
   |exact absurd rfl (i3 _ _)
   |exact absurd rfl (i4 _ _ _)
   |(cases y'<;>exact⟨rfl,rfl⟩)
theorem z6N (neg:Bool) (t:TypeId) (y:AV):eqT P neg t .undef y=none:=by
 unfold eqT;simp[z9v,q6O]
theorem z1M:∀(d:Nat) (t:TypeId) (x:AV),eqA P d t x .undef=none:=by
 intro d t x;have h1:∀x,z6M x .undef=none:=fun x=>by cases x<;>rfl
 have h2:∀x,j7d x .undef=none:=fun x=>by cases x<;>rfl
 have h3:∀x,j7g x .undef=none:=fun x=>by cases x<;>rfl
 have h4:∀x,j7f x .undef=none:=fun x=>by cases x with|ptr a=>cases a<;>rfl | _=>rfl
 have h5:∀x,a8h x .undef=none:=fun x=>by cases x with|sl a=>cases a<;>rfl | _=>rfl
 have h6:∀x,j7e x .undef=none:=fun x=>by cases x with|map a=>cases a<;>rfl | _=>rfl
 have h7:∀x,a8g x .undef=none:=fun x=>by cases x<;>rfl
 have h8:∀x,z1N x .undef=none:=fun x=>by cases x<;>rfl
 cases d with
 |zero=>rfl
 |succ d=>
  simp only[eqA,h1,h2,h3,h4,h5,h6,h7,h8,show q8o AV.undef=none from rfl,Option.bind_none];split<;>first|rfl|(split<;>first|rfl|(cases q8o x<;>rfl))|(cases q8o x<;>rfl)
theorem z1O (neg:Bool) (t:TypeId) (x:AV):eqT P neg t x .undef=none:=by
 unfold eqT;rw[z1M];simp
theorem z4I {op:BinOp} {t _yt:TypeId} {x y:AV} {x' y':Value} {v:AV} (hx:VR p x x') (hy:VR p y y') (h:q0J P op t x y=some v) {xo yo:Operand} :
  Gives P p (do eqGuard op t xo yo x' y';binOp op t x' y') w v:=by
 unfold q0J at h;split at h
 ·
  rename_i k a k' b;simp only[VR]at hx hy;subst hx hy;have hg:(eqGuard op t xo yo (.int k a) (.int k' b)).run P w=.ok () w:=q4I (by simp) (by simp);unfold Gives;simp only[Sem.run_bind,hg,Result.andThen_ok];by_cases hs:op=.shl\/op=.shr
  ·rcases hs with rfl|rfl<;>exact j0M (yk:=k') (by simp) h
  ·have h':(if k=k' then q65 op k a b else none)=some v:=by
    cases op<;>first|exact h|(exact absurd (.inl rfl) hs)|(exact absurd (.inr rfl) hs)
   split at h'
   ·rename_i hk;subst hk;have:=z5b (P:=P) (p:=p) (w:=w) h';cases op<;>first
     |(exact absurd (.inl rfl) hs)
     |(exact absurd (.inr rfl) hs)
     |(simpa[binOp,Gives]using this)
   ·simp at h'
 ·rename_i a b;simp only[VR]at hx hy;subst hx hy;have hg:(eqGuard op t xo yo (.string ⟨⟨a⟩⟩) (.string ⟨⟨b⟩⟩)).run P w=.ok () w:=q4I (by simp) (by simp);unfold Gives;simp only[Sem.run_bind,hg,Result.andThen_ok];by_cases hs:op=.shl\/op=.shr
  ·rcases hs with rfl|rfl<;>simp at h
  ·have h':a0J op a b=some v:=by
    cases op<;>first|exact h|(exact absurd (.inl rfl) hs)|(exact absurd (.inr rfl) hs)
   have:=z5N (P:=P) (p:=p) (w:=w) h';cases op<;>first
     |(exact absurd (.inl rfl) hs)
     |(exact absurd (.inr rfl) hs)
     |(simpa[binOp,Gives]using this)
 ·rename_i h1 h2;have hu:x≠.undef/\y≠.undef:=by
   constructor
   ·rintro rfl;split at h<;>first|(rw[z6N]at h;simp at h;done)|simp at h
   ·rintro rfl;split at h<;>first|(rw[z1O]at h;simp at h;done)|simp at h
  have hb:=binOp_eql (t:=t) hx hy hu.1 hu.2 (fun k a k' b e=>h1 k a k' b e.1 e.2) (fun a b e=>h2 a b e.1 e.2)
  split at h
  ·obtain⟨hg,b,hr,rfl⟩:=q91 (w:=w) (op:=.eql) hx hy h (xo:=xo) (yo:=yo);refine⟨.bool b,?_,by simp[VR]⟩;rw[hb.1];simp only[Sem.run_bind,hg,Result.andThen_ok,hr,Sem.run_pure]
  ·obtain⟨hg,b,hr,rfl⟩:=q91 (w:=w) (op:=.neq) hx hy h (xo:=xo) (yo:=yo);refine⟨.bool !b,?_,by simp[VR]⟩;rw[hb.2];simp only[Sem.run_bind,hg,Result.andThen_ok,hr,Sem.run_pure]
  ·simp at h
theorem j0W {op:UnOp} {x:AV} {x':Value} {v:AV} (hx:VR p x x') (h:unA op x=some v):Gives P p (Op.unary op x') w v:=by
 unfold unA at h;split at h
 ·simp only[VR]at hx;subst hx;cases h;exact⟨_,rfl,by simp[VR]⟩
 ·simp only[VR]at hx;subst hx;simp only[q65]at h;cases h;exact⟨_,rfl,by simp[VR]⟩
 ·simp only[VR]at hx;subst hx;cases h;exact⟨_,rfl,by simp[VR]⟩
 ·simp at h
theorem z1I {src dst:TypeId} {x:AV} {x':Value} {v:AV} (hx:VR p x x') (h:q59 P src dst x=some v):Gives P p (convert src dst x') w v:=by
 unfold q59 at h;split at h
 ·rename_i k0 k n h1 h2;simp only[VR]at hx;subst hx;cases h;refine⟨.int k0 (k0.wrap n),?_,by simp[VR]⟩;simp only[convert,Sem.run_bind,q0g h1,q0g h2,Result.andThen_ok];rfl
 ·rename_i s0 h1 h2;simp only[VR]at hx;subst hx;cases h;refine⟨.string ⟨⟨s0⟩⟩,?_,by simp only[VR]⟩;simp only[convert,Sem.run_bind,q0g h1,q0g h2,Result.andThen_ok];rfl
 ·simp at h
theorem z92 {x:AV} {n:Nat} {v:AV} (h:a8V x n=some v):∃a,x=.ptr (some a)/\v=.ptr (some ⟨a.b,a.o+n⟩):=by
 unfold a8V at h;split at h
 ·rename_i a;cases h;exact⟨a,rfl,rfl⟩
 ·simp at h
theorem addr_add (c o n:Nat):(⟨c,o,none⟩:Addr).add n=⟨c,o+n,none⟩:=by
 unfold Addr.add;split
 ·rename_i h;subst h;rfl
 ·rfl
theorem q5y {a:AA} {ci:CI} (h:p a.b=some ci) (n:Nat):VR p (.ptr (some ⟨a.b,a.o+n⟩)) (.pointer (some ((⟨ci.c,a.o+ci.d,none⟩:Addr).add n))):=by
 simp only[VR,addr_add];exact⟨ci,h,by simp only[Nat.add_right_comm]⟩
theorem q6b {s:TypeId} {x:AV} {f:Nat} {x':Value} {v:AV} (hx:VR p x x') (h:q0h P s x f=some v):Gives P p (Instr.fieldAt s x' f) w v:=by
 unfold q0h q8F at h;split at h
 ·rename_i off ft hf;split at h
  ·rename_i n hn;obtain⟨a,rfl,rfl⟩:=z92 h;simp only[VR]at hx;obtain⟨ci,hci,rfl⟩:=hx;split at hf
   ·rename_i fields hd;simp only[xoe]at hf;obtain⟨fd,h1,h2⟩:=hf;cases h2;unfold Gives Instr.fieldAt;have h1':fields[f]? = some fd:=by simpa using h1
    simp only[Sem.run_bind,q0g hd,Result.andThen_ok,h1',Instr.sureAddr,Sem.run_pure,fieldPlace,q08 hn,Sem.run_ite,Nat.add_one_ne_zero,if_false];exact⟨_,rfl,q5y hci _⟩
   ·simp at hf
  ·simp at h
 ·simp at h
theorem q98 {s:TypeId} {x:AV} {f:Nat} {x':Value} {v:AV} (hx:VR p x x') (h:z7j P s x f=some v):Gives P p (Instr.field s x' f) w v:=by
 unfold z7j at h;split at h
 ·rename_i off ft cs hf;simp only[VR]at hx;obtain⟨cs',rfl,hcs⟩:=hx;unfold q8F at hf;split at hf
  ·rename_i fields hd;simp only[xoe]at hf;obtain⟨fd,h1,h2⟩:=hf;cases h2;unfold Gives Instr.field;have h1':fields[f]? = some fd:=by simpa using h1
   simp only[Sem.run_bind,q0g hd,Result.andThen_ok,h1',asAgg,Sem.run_pure];exact q1g hcs h
  ·simp at hf
 ·simp at h
theorem z4d {sz len:Nat} {a:AA} {i:Int} {v:AV} (h:ixA sz len a i=some v):0<=i/\i<len/\v=.ptr (some ⟨a.b,a.o+i.toNat*sz⟩):=by
 unfold ixA at h;split at h
 ·split at h
  ·cases h;exact⟨‹_›,‹_›,rfl⟩
  ·simp at h
 ·simp at h
theorem q6c {t:TypeId} {x i:AV} {x' i':Value} {v:AV} (hx:VR p x x') (hi:VR p i i') (h:q0F P t x i=some v):Gives P p (Instr.indexAt t x' i') w v:=by
 unfold q0F at h;split at h
 ·rename_i e hd;split at h
  ·rename_i a sz len cap ex k n;simp only[VR]at hi;subst hi;split at h
   ·rename_i s hs;split at h
    ·obtain⟨h0,h1,rfl⟩:=z4d h;simp only[VR,SR]at hx;obtain⟨ci,off,cap',hci,rfl,hlc,hcc,_,_,hoff⟩:=hx;have:off=a.o+ci.d:=hoff (by omega);subst this;unfold Gives Instr.indexAt;simp only[Sem.run_bind,asIntOf,Sem.run_pure,q0g hd,Result.andThen_ok,h0,h1,and_self,if_true,q08 hs];exact⟨_,rfl,q5y hci _⟩
    ·simp at h
   ·simp at h
  ·simp at h
 ·rename_i len e hd;split at h
  ·rename_i a k n;simp only[VR]at hi;subst hi;split at h
   ·rename_i s hs;obtain⟨h0,h1,rfl⟩:=z4d h;simp only[VR]at hx;obtain⟨ci,hci,rfl⟩:=hx;unfold Gives Instr.indexAt;simp only[Sem.run_bind,asIntOf,Sem.run_pure,q0g hd,Result.andThen_ok,Instr.sureAddr,h0,h1,and_self,if_true,q08 hs];exact⟨_,rfl,q5y hci _⟩
   ·simp at h
  ·simp at h
 ·simp at h
theorem z0E {t:TypeId} {x i:AV} {x' i':Value} {v:AV} (hx:VR p x x') (hi:VR p i i') (h:q4A P t x i=some v):Gives P p (Instr.index t x' i') w v:=by
 unfold q4A at h;split at h
 ·rename_i len e hd;split at h
  ·rename_i cs k n;simp only[VR]at hx hi;subst hi;obtain⟨cs',rfl,hcs⟩:=hx;split at h
   ·rename_i h0;split at h
    ·rename_i h1;split at h
     ·rename_i s hs;unfold Gives Instr.index;simp only[Sem.run_bind,asIntOf,Sem.run_pure,q0g hd,Result.andThen_ok,h0,h1,and_self,if_true,q08 hs];exact q1g hcs h
     ·simp at h
    ·simp at h
   ·simp at h
  ·simp at h
 ·rename_i hd;split at h
  ·rename_i s k n;simp only[VR]at hx hi;subst hx hi;split at h
   ·rename_i h0;split at h
    ·rename_i c hc;cases h;unfold Gives Instr.index;have:(if 0<=n then (ByteArray.mk ⟨s⟩)[n.toNat]? else none)=some c:=by
      rw[if_pos h0];have hlt:n.toNat<s.length:=(xgi.1 hc).1;rw[getElem?_pos (ByteArray.mk ⟨s⟩) n.toNat (by simpa[q5s]using hlt)];congr 1;have:=(xgi.1 hc).2;rw[<-this];rfl
     simp only[Sem.run_bind,asIntOf,Sem.run_pure,q0g hd,Result.andThen_ok,this];exact⟨_,rfl,by simp[VR]⟩
    ·simp at h
   ·simp at h
  ·simp at h
 ·simp at h
theorem q64 {hi:Option AV} {hi':Option Value} {len cap h:Nat} (hr:∀a,hi=some a->∃v,hi'=some v/\VR p a v) (hn:hi=none->hi'=none) (e:hiA hi len cap=some h) (code:BoundsCode) :
  (match hi' with|some v=>Instr.sliceBound v cap code|none=>pure len).run P w=.ok h w:=by
 unfold hiA at e;split at e
 ·cases e;rw[hn rfl];rfl
 ·rename_i k n;obtain⟨v,rfl,hv⟩:=hr _ rfl;simp only[VR]at hv;subst hv;split at e
  ·split at e
   ·cases e;simp[Instr.sliceBound,asIntOf, *]
   ·simp at e
  ·simp at e
 ·simp at e
theorem q3f {lo:Option AV} {lo':Option Value} {h l:Nat} (hr:∀a,lo=some a->∃v,lo'=some v/\VR p a v) (hn:lo=none->lo'=none) (e:loA lo h=some l) (code:BoundsCode) :
  (match lo' with|some v=>Instr.sliceBound v h code|none=>pure 0).run P w=.ok l w/\l<=h:=by
 unfold loA at e;split at e
 ·cases e;rw[hn rfl];exact⟨rfl,Nat.zero_le _⟩
 ·rename_i k n _;obtain⟨v,rfl,hv⟩:=hr _ rfl;simp only[VR]at hv;subst hv;split at e
  ·split at e
   ·cases e;exact⟨by simp[Instr.sliceBound,asIntOf, *],by omega⟩
   ·simp at e
  ·simp at e
 ·simp at e
theorem z0D {hi:Option AV} {len cap h:Nat} (hlc:len<=cap) (e:hiA hi len cap=some h):h<=cap:=by
 unfold hiA at e;split at e
 ·cases e;exact hlc
 ·split at e
  ·split at e
   ·cases e;omega
   ·simp at e
  ·simp at e
 ·simp at e
theorem z9o {hi:Option AV} {len cap cap' h:Nat} (hc:cap<=cap') (e:hiA hi len cap=some h):hiA hi len cap'=some h:=by
 unfold hiA at e⊢;split at e
 ·exact e
 ·rename_i n _;split at e
  ·split at e
   ·rename_i h1 h2;rw[if_pos h1,if_pos (by omega)];exact e
   ·simp at e
  ·simp at e
 ·simp at e
theorem q2V {isSlice:Bool} {lo hi:Option AV} {lo' hi':Option Value} {len cap h l:Nat} (hlr:∀a,lo=some a->∃v,lo'=some v/\VR p a v) (hln:lo=none->lo'=none)
  (hhr:∀a,hi=some a->∃v,hi'=some v/\VR p a v) (hhn:hi=none->hi'=none) (e1:hiA hi len cap=some h) (e2:loA lo h=some l) :
  (Instr.sliceBounds isSlice len cap lo' hi' none).run P w=.ok (l,h,cap) w:=by
 unfold Instr.sliceBounds;have a1:=q64 (P:=P) (w:=w) hhr hhn e1 (if isSlice then .sliceAcap else .sliceAlen)
 have a2:=(q3f (P:=P) (w:=w) hlr hln e2 .sliceB).1;cases hi' with
 |none=>
  cases lo' with
  |none=>simp only[Sem.run_bind,Sem.run_pure,Result.andThen_ok]at a1 a2⊢;cases a1;cases a2;rfl
  |some b=>
   simp only[Sem.run_bind,Sem.run_pure,Result.andThen_ok]at a1 a2⊢;cases a1;simp only[Option.isSome_none,xbq,if_false,a2,Result.andThen_ok]
 |some c=>
  cases lo' with
  |none=>simp only[Sem.run_bind,Sem.run_pure,Result.andThen_ok,a1]at a2⊢;cases a2;rfl
  |some b=>simp only[Sem.run_bind,Sem.run_pure,Result.andThen_ok,a1,Option.isSome_none,xbq,if_false,a2]
theorem q23 {t:TypeId} {x:AV} {x':Value} {lo hi:Option AV} {lo' hi':Option Value} {v:AV} (hx:VR p x x') (hlr:∀a,lo=some a->∃v,lo'=some v/\VR p a v) (hln:lo=none->lo'=none)
  (hhr:∀a,hi=some a->∃v,hi'=some v/\VR p a v) (hhn:hi=none->hi'=none) (h:q0o P t x lo hi=some v):Gives P p (Instr.sliceAt t x' lo' hi' none) w v:=by
 unfold q0o at h;unfold Gives Instr.sliceAt;split at h
 ·rename_i hd;split at h
  ·rename_i s;simp only[VR]at hx;subst hx;split at h
   ·rename_i hh e1;split at h
    ·rename_i l e2;cases h;simp only[Sem.run_bind,q0g hd,Result.andThen_ok,Instr.slice,Option.isSome_none,xbq,if_false,q5s,Sem.run_pure];rw[q2V hlr hln hhr hhn e1 e2];refine⟨_,rfl,?_⟩;simp only[VR];rw[show (ByteArray.mk ⟨s⟩)=ByteArray.mk s.toArray from rfl,ByteArray.extract_mk];congr 2;rw[List.drop_take]
    ·simp at h
   ·simp at h
  ·simp at h
 ·rename_i e hd;split at h
  ·rename_i a sz len cap ex s hs;split at h
   ·rename_i hh e1;split at h
    ·rename_i l e2;simp only[Sem.run_bind,q0g hd,Result.andThen_ok];split at h
     ·rename_i a;split at h
      ·rename_i hss;cases h;simp only[VR,SR]at hx;obtain⟨ci,off,cap',hci,rfl,hlc,hcc,hex,hbd,hoff⟩:=hx;simp only[Instr.slice,Sem.run_bind,q0g hd,Result.andThen_ok];rw[q2V hlr hln hhr hhn (z9o hcc e1) e2];simp only[Result.andThen_ok,q08 hs,Sem.run_pure];refine⟨_,rfl,?_⟩;have hle:=z0D hlc e1;have hl:=(q3f (P:=P) (w:=w) hlr hln e2 .sliceB).2;simp only[VR,SR];by_cases hm:cap'=l
       ·refine⟨ci,off,cap'-l,hci,by simp[hm],by omega,by omega,fun h=>by rw[hex h],fun h=>?_,fun h=>by omega⟩
        have:=hbd h;rw[hm,Nat.sub_self];omega
       ·refine⟨ci,off+l*s,cap'-l,hci,?_,by omega,by omega,fun h=>by rw[hex h],fun h=>?_,fun h=>?_⟩
        ·simp only[if_neg hm,xom,addr_add]
        ·have hsz:s=sz:=by rcases hss with e|e;· exact e
                           ·rw[h]at e;cases e
         subst hsz;have:=hbd h;have:l*s+(cap'-l)*s=cap'*s:=by rw[<-Nat.add_mul];congr 1;omega
         omega
        ·have:=hoff (by omega);omega
      ·simp at h
     ·split at h
      ·rename_i hc;subst hc;cases h;simp only[VR]at hx;obtain⟨h1,_,rfl⟩:=hx;subst h1;have hle:=z0D (xnr 0) e1;have hl:=(q3f (P:=P) (w:=w) hlr hln e2 .sliceB).2;have h0:hh=0:=by omega
       have l0:l=0:=by omega
       subst h0 l0;simp only[Instr.slice,Sem.run_bind,q0g hd,Result.andThen_ok];rw[q2V hlr hln hhr hhn e1 e2];simp only[Result.andThen_ok,q08 hs,Sem.run_pure];exact⟨_,rfl,by simp[VR]⟩
      ·simp at h
    ·simp at h
   ·simp at h
  ·simp at h
 ·rename_i n e hd;split at h
  ·rename_i a s hs;split at h
   ·rename_i hh e1;split at h
    ·rename_i l e2;cases h;simp only[VR]at hx;obtain⟨ci,hci,rfl⟩:=hx;simp only[Sem.run_bind,q0g hd,Result.andThen_ok,Instr.sureAddr,Sem.run_pure];rw[q2V hlr hln hhr hhn e1 e2];simp only[Result.andThen_ok,q08 hs];refine⟨_,rfl,?_⟩;have hle:=z0D (xnr n) e1;have hl:=(q3f (P:=P) (w:=w) hlr hln e2 .sliceB).2;simp only[VR,SR];by_cases hm:n=l
     ·exact⟨ci,a.o+ci.d,n-l,hci,by simp[hm],by omega,by omega,fun _=>rfl,by simp,fun h=>by omega⟩
     ·refine⟨ci,a.o+ci.d+l*s,n-l,hci,?_,by omega,by omega,fun _=>rfl,by simp,fun h=>by omega⟩
      simp only[if_neg hm,addr_add]
    ·simp at h
   ·simp at h
  ·simp at h
 ·simp at h
theorem q5r {t:TypeId} {x:AV} {x':Value} {lo:Option AV} {lo':Option Value} {hi mx:AV} {hi' mx':Value} {v:AV} (hx:VR p x x') (hlr:∀a,lo=some a->∃v,lo'=some v/\VR p a v) (hln:lo=none->lo'=none)
  (hhr:VR p hi hi') (hmr:VR p mx mx') (h:q9D P t x lo hi mx=some v):Gives P p (Instr.sliceAt t x' lo' (some hi') (some mx')) w v:=by
 unfold q9D at h;unfold Gives Instr.sliceAt;split at h
 ·rename_i e hd;split at h
  ·rename_i a sz _ cap ex s hs;split at h
   ·rename_i mm e0;split at h
    ·rename_i hh e1;split at h
     ·rename_i l e2;split at h
      ·rename_i hss;cases h;simp only[VR,SR]at hx;obtain⟨ci,off,cap',hci,rfl,hlc,hcc,hex,hbd,hoff⟩:=hx;simp only[Sem.run_bind,q0g hd,Result.andThen_ok,Instr.slice];have hb:∀n,(Instr.sliceBounds true n cap' lo' (some hi') (some mx')).run P w=.ok (l,hh,mm) w:=by
        intro n;have a0:=q64 (P:=P) (w:=w) (hi:=some mx) (hi':=some mx') (len:=0) (fun a ha=>by cases ha;exact⟨_,rfl,hmr⟩) (by simp) (z9o hcc e0) .slice3Acap
        have a1:=q64 (P:=P) (w:=w) (hi:=some hi) (hi':=some hi') (len:=0) (fun a ha=>by cases ha;exact⟨_,rfl,hhr⟩) (by simp) e1 .slice3B
        have a2:=(q3f (P:=P) (w:=w) hlr hln e2 .slice3C).1;unfold Instr.sliceBounds;simp only at a0 a1;cases lo' with
        |none=>simp only[Sem.run_bind,if_true,a0,a1,Result.andThen_ok,Sem.run_pure]at a2⊢;cases a2;rfl
        |some b=>simp only at a2;simp only[Sem.run_bind,if_true,a0,a1,Result.andThen_ok,Sem.run_pure,Option.isSome_some,a2]
       rw[hb];simp only[Result.andThen_ok,q08 hs,Sem.run_pure];refine⟨_,rfl,?_⟩;have hm1:=z0D (hi:=some mx) (Nat.zero_le _) e0;have hle:=z0D (hi:=some hi) (Nat.zero_le _) e1;have hl:=(q3f (P:=P) (w:=w) hlr hln e2 .sliceB).2;simp only[VR,SR];by_cases hm:mm=l
       ·exact⟨ci,off,mm-l,hci,by simp[hm],by omega,xnr _,fun _=>rfl,by simp,fun h=>by omega⟩
       ·refine⟨ci,off+l*s,mm-l,hci,?_,by omega,xnr _,fun _=>rfl,by simp,fun h=>?_⟩
        ·simp only[if_neg hm,xom,addr_add]
        ·have:=hoff (by omega);omega
      ·simp at h
     ·simp at h
    ·simp at h
   ·simp at h
  ·simp at h
 ·simp at h
end
end
section
open Go
section
variable {P:Program} {p:Phi} {w:World}
theorem z9W {x:AV} {x':Value} {v:AV} (hx:VR p x x') (h:nnA x=some v) {o:Oper} {xo:Operand} (ho:o.op=.nilCheck xo) {a:Act} (hv:a.eval xo=x') :
  ∃cv,(execOp a.eval o).run P w=.ok (.value cv) w/\VR p v cv:=by
 unfold nnA at h;split at h
 ·cases h;have hx':=hx;simp only[VR]at hx;obtain⟨ci,hci,rfl⟩:=hx;exact⟨_,by simp only[execOp,ho,hv];rfl,hx'⟩
 ·cases h;have hx':=hx;simp only[VR]at hx;obtain⟨ci,rfl,_⟩:=hx;exact⟨_,by simp only[execOp,ho,hv];rfl,hx'⟩
 ·cases h;have hx':=hx;simp only[VR]at hx;obtain⟨_,_,rfl,_⟩:=hx;exact⟨_,by simp only[execOp,ho,hv];rfl,hx'⟩
 ·cases h;have hx':=hx;simp only[VR]at hx;obtain⟨_,_,rfl⟩:=hx;exact⟨_,by simp only[execOp,ho,hv];rfl,hx'⟩
 ·simp at h
theorem z4L {v:Value} {vs:List Value} (h:v.cells=⟨vs⟩):v.cells.size=vs.length:=by rw[h];simp
theorem foldl_set (vs:List Value):∀(off k:Nat) (cs:List Value),off+k+vs.length<=cs.length->
  (vs.zipIdx k).foldl (fun (cs:Array Value) (c:Value×Nat)=>cs.setIfInBounds (off+c.2) c.1) ⟨cs⟩=⟨cs.take (off+k)++vs++cs.drop (off+k+vs.length)⟩:=by
 induction vs with
 |nil=>intro off k cs h;simp
 |cons v vs ih=>
  intro off k cs h;simp only[List.zipIdx_cons,List.foldl_cons];simp only[List.length_cons]at h;have e:(⟨cs⟩:Array Value).setIfInBounds (off+k) v=⟨cs.set (off+k) v⟩:=by simp[List.setIfInBounds_toArray]
  rw[e,ih off (k+1) (cs.set (off+k) v) (by simp;omega)];congr 1;apply List.ext_getElem?;intro i;simp only[List.getElem?_append,xla0,xlt0,List.length_set,List.getElem?_take,List.getElem?_drop,List.getElem?_set,List.length_cons,List.getElem?_cons]
  grind
theorem q4J {place:Nat->Option (Nat×Nat)}:∀{parts:List (Nat×AV)} {parts':List (Nat×Value)},q7H p parts parts'->∀{cs:List AV} {cs':List Value} {r:List AV},VRs p cs cs'->
  q0n place cs parts=some r->∃r',Instr.fill place ⟨cs'⟩ parts'=some ⟨r'⟩/\VRs p r r':=by
 intro parts parts' hp;induction hp with
 |nil=>intro cs cs' r hc h;simp only[q0n,xoi]at h;subst h;exact⟨cs',rfl,hc⟩
 |cons hv ht ih=>
  rename_i i a v as vs;intro cs cs' r hc h;simp only[q0n]at h;split at h
  ·rename_i off size xs hpl hcl;split at h
   ·rename_i hl;split at h
    ·rename_i hle;obtain⟨ys,hy,hys,_⟩:=hv.cells hcl;have hlen:=hys.length;have hclen:=hc.length;have hc2:VRs p (cs.take off++xs++cs.drop (off+size)) (cs'.take off++ys++cs'.drop (off+size)):=((hc.take off).append hys).append (hc.drop _);obtain⟨r',h1,h2⟩:=ih hc2 h;refine⟨r',?_,h2⟩;simp only[Instr.fill,hpl,z4L hy];rw[if_neg]
     ·rw[<-h1,hy];congr 1;have:=foldl_set ys off 0 cs' (by omega);simp only[xna,hlen,hl]at this;rw[<-this,Array.zipIdx_toArray,<-Array.foldl_toList]
     ·simp;omega
    ·simp at h
   ·simp at h
  ·simp at h
theorem q1O {t:TypeId} {zs:List AV} (h:q3J P t=some zs):∃z zs',(zeroValue t).run P w=.ok z w/\z.cells=⟨zs'⟩/\VRs p zs zs'/\zs.all AV.one=true/\
  (∃i,P.info? t=some i/\i.zero=some z):=by
 unfold q3J at h;cases hi:P.info? t with
 |none=>simp[hi]at h
 |some i=>
  rw[hi]at h;simp only[Option.bind_some]at h;cases hz:i.zero with
  |none=>simp[hz]at h
  |some z=>
   rw[hz]at h;simp only at h;obtain⟨a,h1,h2⟩:=be h;obtain⟨vs,h3,h4,h5⟩:=(z9Z p h1).cells h2;exact⟨z,vs,by simp[zeroValue,q6y hi,hz],h3,h4,h5,i,rfl,hz⟩
theorem q7b {w:World}:∀{fs:List Field} {ps:List (Nat×Nat)},placesOf P fs=some ps->(fs.mapM fun (f:Field)=>(do pure (f.offset,<-sizeOf f.type):Sem (Nat×Nat))).run P w=.ok ps w
 |[],ps,h=>by simp only[placesOf,xoi]at h;subst h;simp[List.mapM_nil]
 |f::fs,ps,h=>by
  simp only[placesOf]at h;split at h
  ·rename_i n ps' h1 h2;cases h;have:=q7b h2 (w:=w);simp only[List.mapM_cons,Sem.run_bind,q08 h1,Result.andThen_ok,Sem.run_pure,this]
  ·simp at h
theorem q9T {t:TypeId} {parts:List (Nat×AV)} {parts':List (Nat×Value)} (hp:q7H p parts parts') {v:AV} (h:q2j P t parts=some v):Gives P p (Instr.build t ⟨parts'⟩) w v:=by
 unfold q2j at h;unfold Gives Instr.build;split at h
 ·rename_i fields zs hd hz;obtain⟨z,zs',h1,h2,h3,_⟩:=q1O (p:=p) (w:=w) hz;split at h
  ·rename_i ps hps;obtain⟨r,hr,rfl⟩:=xoe.1 h;obtain⟨r',h4,h5⟩:=q4J hp h3 hr;simp only[Sem.run_bind,h1,Result.andThen_ok,q0g hd];rw[Array.mapM_eq_mapM_toList];simp only[Sem.run_map,q7b hps,Result.andThen_ok,h2];have:(fun x=>(ps.toArray)[x]?)=fun (x:Nat)=>ps[x]?:=by funext x;simp
   simp only[this,h4];exact⟨_,rfl,by simp only[VR];exact⟨r',rfl,h5⟩⟩
  ·simp at h
 ·rename_i n e zs hd hz;obtain⟨z,zs',h1,h2,h3,_⟩:=q1O (p:=p) (w:=w) hz;split at h
  ·rename_i s hs;obtain⟨r,hr,rfl⟩:=xoe.1 h;obtain⟨r',h4,h5⟩:=q4J hp h3 hr;simp only[Sem.run_bind,h1,Result.andThen_ok,q0g hd,q08 hs,h2,h4];exact⟨_,rfl,by simp only[VR];exact⟨r',rfl,h5⟩⟩
  ·simp at h
 ·simp at h
theorem q7A {x:AV} {x':Value} {i:Nat} {v:AV} (hx:VR p x x') (h:q0l x i=some v):Gives P p (Instr.extract x' i) w v:=by
 unfold q0l at h;split at h
 ·rename_i vs;simp only[VR]at hx;obtain⟨vs',rfl,hvs⟩:=hx;obtain⟨v',h1,h2⟩:=hvs.get h;have:(⟨vs'⟩:Array Value)[i]? = some v':=by simpa using h1
  exact⟨v',by simp[Instr.extract,this],h2⟩
 ·simp at h
theorem q7C {t:TypeId} {x:AV} {x':Value} {v:AV} (hx:VR p x x') (h:q9p P t x=some v):Gives P p (Instr.makeInterface t x') w v:=by
 unfold q9p at h;cases hd:P.underlying t with
 |none=>simp[hd]at h
 |some d=>
  simp only[hd]at h;refine⟨.iface t x',?_,?_⟩
  ·simp only[Instr.makeInterface,Sem.run_bind,q0g hd,Result.andThen_ok];cases d<;>first|rfl|(simp at h)
  ·cases d<;>simp at h<;>(subst h;simp only[VR];exact⟨x',rfl,hx⟩)
theorem z5l {t:TypeId} {x:AV} {x':Value} {v:AV} (hx:VR p x x') (h:q1M P t x=some v) (ty:TypeId):Gives P p (Builtin.len_ #[t] ty #[x']) w v:=by
 unfold q1M at h;unfold Gives Builtin.len_;split at h
 ·rename_i hd;split at h
  ·simp only[VR]at hx;subst hx;cases h;refine⟨_,by simp[q0g hd];rfl,?_⟩;simp only[VR,goInt,q5s]
  ·simp at h
 ·rename_i n e hd;cases h;refine⟨goInt n,by simp[q0g hd],by simp[VR,goInt]⟩
 ·rename_i e hd;split at h
  ·rename_i a sz len cap ex;cases h;cases a with
   |none=>simp only[VR]at hx;obtain⟨rfl,_,rfl⟩:=hx;exact⟨goInt 0,by simp[q0g hd],by simp[VR,goInt]⟩
   |some a=>simp only[VR,SR]at hx;obtain⟨_,_,_,_,rfl,_⟩:=hx;exact⟨goInt len,by simp[q0g hd],by simp[VR,goInt]⟩
  ·simp at h
 ·simp at h
theorem z4K {t:TypeId} {x:AV} {x':Value} {v:AV} (hx:VR p x x') (h:z6t P t x=some v) (ty:TypeId):Gives P p (Builtin.cap_ #[t] ty #[x']) w v:=by
 unfold z6t at h;unfold Gives Builtin.cap_;split at h
 ·rename_i e hd;split at h
  ·rename_i a sz len cap;cases h;cases a with
   |none=>simp only[VR]at hx;obtain⟨_,rfl,rfl⟩:=hx;exact⟨goInt 0,by simp[q0g hd],by simp[VR,goInt]⟩
   |some a=>simp only[VR,SR]at hx;obtain⟨_,_,cap',_,rfl,_,_,hex,_⟩:=hx;rw[<-hex trivial];exact⟨goInt cap',by simp[q0g hd],by simp[VR,goInt]⟩
  ·simp at h
 ·simp at h
theorem z5n {x y:AV} {x' y':Value} {v:AV} (hx:VR p x x') (hy:VR p y y') (h:a8R x y=some v) (ts:Array TypeId) (ty:TypeId):Gives P p (Builtin.min_ ts ty #[x',y']) w v:=by
 unfold a8R at h;split at h
 ·simp only[VR]at hx hy;subst hx hy;cases h;exact⟨_,rfl,by simp[VR]⟩
 ·simp at h
theorem z5m {x y:AV} {x' y':Value} {v:AV} (hx:VR p x x') (hy:VR p y y') (h:a8Q x y=some v) (ts:Array TypeId) (ty:TypeId):Gives P p (Builtin.max_ ts ty #[x',y']) w v:=by
 unfold a8Q at h;split at h
 ·simp only[VR]at hx hy;subst hx hy;cases h;exact⟨_,rfl,by simp[VR]⟩
 ·simp at h
theorem Gives.value {s:Sem Value} {v:AV} (h:Gives P p s w v):∃cv,(do pure (Next.value (<-s)):Sem Next).run P w=.ok (.value cv) w/\VR p v cv:=by
 obtain⟨cv,h1,h2⟩:=h;exact⟨cv,by simp[h1],h2⟩
theorem q1d {a:Act} {b:Builtin} {xs:List Operand} {ts:Array TypeId} {ty:TypeId} :
  (do let d<-resolve a.eval {callee:=.builtin b,args:=⟨xs⟩,argTypes:=ts} ty;invoke d.target d.args:Sem Next).run P w =
   (builtin b ts ty ((⟨xs⟩:Array Operand).map fun | .const _=>true | _=>false) (⟨xs.map a.eval⟩)).run P w:=by
 simp only[resolve,Sem.run_bind,Sem.run_pure,Result.andThen_ok,invoke];congr 2;simp
theorem q73 {o:Oper} {t:List AV} {a:Act} (ht:VRs p t a.tmps.toList) (hg:∀g,g<P.globals.size->∃n,p g=some ⟨g,0,n⟩) {v:AV} (h:q5l P o.op t=some v) :
  ∃cv,(execOp a.eval o).run P w=.ok (.value cv) w/\VR p v cv:=by
 have E:∀{x:Operand} {v:AV},ev P t x=some v->VR p v (a.eval x):=fun h=>q2s ht hg h
 have ho:∃op,o.op=op:=⟨_,rfl⟩;obtain⟨op,ho⟩:=ho;rw[ho]at h;unfold q5l at h;split at h
 ·exact⟨_,by simp only[execOp,ho];rfl,E h⟩
 ·exact⟨_,by simp only[execOp,ho];rfl,E h⟩
 ·obtain⟨c,h1,h⟩:=be h;obtain⟨x,h2,h⟩:=be h;obtain⟨y,h3,h⟩:=be h;unfold a7h at h;have hc:=E h1;split at h
  ·simp only[VR]at hc;cases h;exact⟨_,by simp only[execOp,ho,hc];rfl,E h2⟩
  ·simp only[VR]at hc;cases h;exact⟨_,by simp only[execOp,ho,hc];rfl,E h3⟩
  ·simp at h
 ·obtain⟨x,h1,h⟩:=be h;exact z9W (E h1) h ho rfl
 ·obtain⟨x,h1,h⟩:=be h;obtain⟨y,h2,h⟩:=be h;simp only[execOp,ho];exact(z4I (_yt:=0) (E h1) (E h2) h).value
 ·obtain⟨x,h1,h⟩:=be h;simp only[execOp,ho];exact(j0W (E h1) h).value
 ·obtain⟨x,h1,h⟩:=be h;simp only[execOp,ho];exact(z1I (E h1) h).value
 ·obtain⟨x,h1,h⟩:=be h;simp only[execOp,ho];exact(q6b (E h1) h).value
 ·obtain⟨x,h1,h⟩:=be h;simp only[execOp,ho];exact(q98 (E h1) h).value
 ·obtain⟨x,h1,h⟩:=be h;obtain⟨y,h2,h⟩:=be h;simp only[execOp,ho];exact(q6c (E h1) (E h2) h).value
 ·obtain⟨x,h1,h⟩:=be h;obtain⟨y,h2,h⟩:=be h;simp only[execOp,ho];exact(z0E (E h1) (E h2) h).value
 ·obtain⟨x,h1,h⟩:=be h;simp only[execOp,ho];split at h
  ·exact(q23 (E h1) (by simp) (by simp) (by simp) (by simp) h).value
  ·obtain⟨l,h2,h⟩:=be h;exact(q23 (E h1) (by rintro _ ⟨⟩;exact⟨_,rfl,E h2⟩) (by simp) (by simp) (by simp) h).value
  ·obtain⟨l,h2,h⟩:=be h;exact(q23 (E h1) (by simp) (by simp) (by rintro _ ⟨⟩;exact⟨_,rfl,E h2⟩) (by simp) h).value
  ·obtain⟨l,h2,h⟩:=be h;obtain⟨u,h3,h⟩:=be h;exact(q23 (E h1) (by rintro _ ⟨⟩;exact⟨_,rfl,E h2⟩) (by simp) (by rintro _ ⟨⟩;exact⟨_,rfl,E h3⟩) (by simp) h).value
 ·obtain⟨x,h1,h⟩:=be h;obtain⟨u,h2,h⟩:=be h;obtain⟨mx,h3,h⟩:=be h;simp only[execOp,ho];split at h
  ·exact(q5r (lo':=none) (E h1) (by simp) (by simp) (E h2) (E h3) h).value
  ·obtain⟨l,h4,h⟩:=be h;exact(q5r (E h1) (by rintro _ ⟨⟩;exact⟨_,rfl,E h4⟩) (by simp) (E h2) (E h3) h).value
 ·obtain⟨x,h1,h⟩:=be h;simp only[execOp,ho];exact(q7A (E h1) h).value
 ·obtain⟨x,h1,h⟩:=be h;simp only[execOp,ho];exact(q7C (E h1) h).value
 ·rename_i f first cap
  obtain⟨x,h1,h⟩:=be h;obtain⟨y,h2,h⟩:=be h;cases h;refine⟨.func f (first.map a.eval) (cap.map a.eval),by simp only[execOp,ho];rfl,?_⟩
  simp only[VR];exact⟨_,_,by rw[show first.map a.eval=⟨first.toList.map a.eval⟩ from by apply Array.ext';simp,show cap.map a.eval=⟨cap.toList.map a.eval⟩ from by apply Array.ext';simp],q6P ht hg h1,q6P ht hg h2⟩
 ·rename_i s parts;obtain⟨x,h1,h⟩:=be h;simp only[execOp,ho];have:=q9T (w:=w) (q5H ht hg h1) h;have e:(parts.map fun (i,x)=>(i,a.eval x))=⟨parts.toList.map fun (i,x)=>(i,a.eval x)⟩:=by apply Array.ext';simp
  rw[<-e]at this;exact this.value
 ·rename_i x s;obtain⟨x,h1,h⟩:=be h;simp only[execOp,ho];rw[q1d];exact(z5l (E h1) h o.type).value
 ·obtain⟨x,h1,h⟩:=be h;simp only[execOp,ho];rw[q1d];exact(z4K (E h1) h o.type).value
 ·obtain⟨x,h1,h⟩:=be h;obtain⟨y,h2,h⟩:=be h;simp only[execOp,ho];rw[q1d];exact(z5n (E h1) (E h2) h _ o.type).value
 ·obtain⟨x,h1,h⟩:=be h;obtain⟨y,h2,h⟩:=be h;simp only[execOp,ho];rw[q1d];exact(z5m (E h1) (E h2) h _ o.type).value
 ·simp at h
end
end
end Go.Abs
