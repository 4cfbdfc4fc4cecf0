/- Texts of one claim, put together. -/
import Derived.Test.YtkbhcgifnnhbaaaGreatDoorK10
import Derived.Defers
namespace Go.Abs
open Go
section
def IC.er:IC->AC
 | .skip=>.skip
 | .region id ops draw chk anc=>.region id ops draw chk anc
 | .seq a b=>.seq a.er b.er
 | .cond c x y=>.cond c x.er y.er
 | .block id b=>.block id b.er
 | .loop b=>.loop b.er
 | .rangeFunc _ f ps a b=>.rangeFunc f ps a b
 | .scope b=>.scope b.er
 | .exit id=>.exit id
 | .ret=>.ret
 | .pt _ live c=>.pt live c.er
 | .other c=>.other c
theorem q1w:∀(c:AC) (n l:Nat),(index c n l).er=c
 | .skip,_,_ | .region ..,_,_ | .exit _,_,_ | .ret,_,_ | .rangeFunc ..,_,_ | .other _,_,_=>rfl
 | .seq a b,n,l=>by simp only[index,IC.er,q1w a,q1w b]
 | .cond c a b,n,l=>by simp only[index,IC.er,q1w a,q1w b]
 | .block id b,n,l=>by simp only[index,IC.er,q1w b]
 | .loop b,n,l=>by simp only[index,IC.er,q1w b]
 | .scope b,n,l=>by simp only[index,IC.er,q1w b]
 | .pt live b,n,l=>by simp only[index,IC.er,q1w b]
def mkL:IC->List AI->List (Nat×List Bool×List AI)
 | .pt i l c,k=>(i,l,.code c.er::k)::mkL c k
 | .seq a b,k=>mkL a (.code b.er::k)++mkL b k
 | .cond _ x y,k=>mkL x k++mkL y k
 | .block id b,k=>mkL b (.inBlock id::k)
 | .loop b,k=>mkL b (.inLoop b.er::k)
 | .scope b,k=>mkL b (.inScope b.er::k)
 | _,_=>[]
def lpL:IC->List AI->List (Nat×(List Tmp×AC×AC)×List AI)
 | .pt _ _ c,k=>lpL c k
 | .seq a b,k=>lpL a (.code b.er::k)++lpL b k
 | .cond _ x y,k=>lpL x k++lpL y k
 | .block id b,k=>lpL b (.inBlock id::k)
 | .loop b,k=>lpL b (.inLoop b.er::k)
 | .scope b,k=>lpL b (.inScope b.er::k)
 | .rangeFunc i _ ps a b,k=>[(i,(ps,a,b),k)]
 | _,_=>[]
def q7h:AC->List AI->List (List Bool×List AI)
 | .pt l c,k=>(l,.code c::k)::q7h c k
 | .seq a b,k=>q7h a (.code b::k)++q7h b k
 | .cond _ x y,k=>q7h x k++q7h y k
 | .block id b,k=>q7h b (.inBlock id::k)
 | .loop b,k=>q7h b (.inLoop b::k)
 | .scope b,k=>q7h b (.inScope b::k)
 | .rangeFunc _ _ a b,_=>q7h a [.beginRound,.code b]++q7h b []
 | _,_=>[]
theorem q1y:∀(c:AC) (k:List AI),(q7h c k).map (·.2)=marks c k
 | .pt l c,k=>by simp only[q7h,marks,xBf,q1y c]
 | .seq a b,k=>by simp only[q7h,marks,xCx,q1y a,q1y b]
 | .cond _ a b,k=>by simp only[q7h,marks,xCx,q1y a,q1y b]
 | .block id b,k=>by simp only[q7h,marks,q1y b]
 | .loop b,k=>by simp only[q7h,marks,q1y b]
 | .scope b,k=>by simp only[q7h,marks,q1y b]
 | .rangeFunc _ _ a b,k=>by simp only[q7h,marks,xCx,q1y a,q1y b]
 | .skip,_ | .region ..,_ | .exit _,_ | .ret,_ | .other _,_=>rfl
theorem q1e:∀(c:AC) (k:List AI),(q7h c k).length=q12 c
 | .pt l c,k=>by simp only[q7h,q12,xAi,q1e c]
 | .seq a b,k=>by simp only[q7h,q12,xla0,q1e a,q1e b]
 | .cond _ a b,k=>by simp only[q7h,q12,xla0,q1e a,q1e b]
 | .block id b,k=>by simp only[q7h,q12,q1e b]
 | .loop b,k=>by simp only[q7h,q12,q1e b]
 | .scope b,k=>by simp only[q7h,q12,q1e b]
 | .rangeFunc _ _ a b,k=>by simp only[q7h,q12,xla0,q1e a,q1e b]
 | .skip,_ | .region ..,_ | .exit _,_ | .ret,_ | .other _,_=>rfl
theorem q05:∀(c:AC),(loops c).length=q1o c
 | .pt l c=>by simp only[loops,q1o,q05 c]
 | .seq a b=>by simp only[loops,q1o,xla0,q05 a,q05 b]
 | .cond _ a b=>by simp only[loops,q1o,xla0,q05 a,q05 b]
 | .block id b=>by simp only[loops,q1o,q05 b]
 | .loop b=>by simp only[loops,q1o,q05 b]
 | .scope b=>by simp only[loops,q1o,q05 b]
 | .rangeFunc _ _ a b=>by simp only[loops,q1o,xAi,xla0,q05 a,q05 b]
 | .skip | .region .. | .exit _ | .ret | .other _=>rfl
theorem q0W:∀(c:AC) (k:List AI),(q2n c k).length=q1o c
 | .pt l c,k=>by simp only[q2n,q1o,q0W c]
 | .seq a b,k=>by simp only[q2n,q1o,xla0,q0W a,q0W b]
 | .cond _ a b,k=>by simp only[q2n,q1o,xla0,q0W a,q0W b]
 | .block id b,k=>by simp only[q2n,q1o,q0W b]
 | .loop b,k=>by simp only[q2n,q1o,q0W b]
 | .scope b,k=>by simp only[q2n,q1o,q0W b]
 | .rangeFunc _ _ a b,k=>by simp only[q2n,q1o,xAi,xla0,q0W a,q0W b]
 | .skip,_ | .region ..,_ | .exit _,_ | .ret,_ | .other _,_=>rfl
theorem z0G {α:Type} {a b:List α} {i:Nat} {x:α} (h:a[i]? = some x):(a++b)[i]? = some x:=by
 rw[xBj (xgi.1 h).1];exact h
theorem q7r {α:Type} {a b:List α} {i n:Nat} {x:α} (hn:a.length=n) (h:b[i]? = some x):(a++b)[n+i]? = some x:=by
 subst hn;rw[xBl (Nat.le_add_right _ _),xEp];exact h
theorem q2B:∀(c:AC) (n l:Nat) (k:List AI),∀x∈mkL (index c n l) k,∃i,x.1=n+i/\(q7h c k)[i]? = some x.2
 | .skip,_,_,_,x,hx | .region ..,_,_,_,x,hx | .exit _,_,_,_,x,hx | .ret,_,_,_,x,hx | .rangeFunc ..,_,_,_,x,hx | .other _,_,_,_,x,hx=>by simp[index,mkL]at hx
 | .pt live c,n,l,k,x,hx=>by
  simp only[index,mkL,xmk0,q1w]at hx;rcases hx with rfl|hx
  ·exact⟨0,rfl,rfl⟩
  ·obtain⟨i,h1,h2⟩:=q2B c _ _ _ x hx;exact⟨i+1,by omega,h2⟩
 | .seq a b,n,l,k,x,hx=>by
  simp only[index,mkL,xma,q1w]at hx;rcases hx with hx|hx
  ·obtain⟨i,h1,h2⟩:=q2B a _ _ _ x hx;exact⟨i,h1,z0G h2⟩
  ·obtain⟨i,h1,h2⟩:=q2B b _ _ _ x hx;exact⟨q12 a+i,by omega,q7r (q1e _ _) h2⟩
 | .cond _ a b,n,l,k,x,hx=>by
  simp only[index,mkL,xma]at hx;rcases hx with hx|hx
  ·obtain⟨i,h1,h2⟩:=q2B a _ _ _ x hx;exact⟨i,h1,z0G h2⟩
  ·obtain⟨i,h1,h2⟩:=q2B b _ _ _ x hx;exact⟨q12 a+i,by omega,q7r (q1e _ _) h2⟩
 | .block id b,n,l,k,x,hx=>q2B b n l _ x hx
 | .loop b,n,l,k,x,hx=>by
  simp only[index,mkL,q1w]at hx;exact q2B b n l _ x hx
 | .scope b,n,l,k,x,hx=>by
  simp only[index,mkL,q1w]at hx;exact q2B b n l _ x hx
theorem q2x:∀(c:AC) (n l:Nat) (k:List AI),∀x∈lpL (index c n l) k,∃i,x.1=l+i/\(loops c)[i]? = some x.2.1/\(q2n c k)[i]? = some x.2.2
 | .skip,_,_,_,x,hx | .region ..,_,_,_,x,hx | .exit _,_,_,_,x,hx | .ret,_,_,_,x,hx | .other _,_,_,_,x,hx=>by simp[index,lpL]at hx
 | .rangeFunc f ps a b,n,l,k,x,hx=>by
  simp only[index,lpL,xms]at hx;subst hx;exact⟨0,rfl,rfl,rfl⟩
 | .pt live c,n,l,k,x,hx=>q2x c _ _ _ x hx
 | .seq a b,n,l,k,x,hx=>by
  simp only[index,lpL,xma,q1w]at hx;rcases hx with hx|hx
  ·obtain⟨i,h1,h2,h3⟩:=q2x a _ _ _ x hx;exact⟨i,h1,z0G h2,z0G h3⟩
  ·obtain⟨i,h1,h2,h3⟩:=q2x b _ _ _ x hx;exact⟨q1o a+i,by omega,q7r (q05 _) h2,q7r (q0W _ _) h3⟩
 | .cond _ a b,n,l,k,x,hx=>by
  simp only[index,lpL,xma]at hx;rcases hx with hx|hx
  ·obtain⟨i,h1,h2,h3⟩:=q2x a _ _ _ x hx;exact⟨i,h1,z0G h2,z0G h3⟩
  ·obtain⟨i,h1,h2,h3⟩:=q2x b _ _ _ x hx;exact⟨q1o a+i,by omega,q7r (q05 _) h2,q7r (q0W _ _) h3⟩
 | .block id b,n,l,k,x,hx=>q2x b n l _ x hx
 | .loop b,n,l,k,x,hx=>by
  simp only[index,lpL,q1w]at hx;exact q2x b n l _ x hx
 | .scope b,n,l,k,x,hx=>by
  simp only[index,lpL,q1w]at hx;exact q2x b n l _ x hx
def Mq (E:Env) (k:Nat):List Bool:=z6l (b1R E (k / 4096)) ((((q7h (codeOf E (k / 4096)) [])[k % 4096]?).map (·.1)).getD [])
def Nq (E:Env) (k:Nat):List Bool:=List.replicate (b1R E (k / 4096)) true
def IC.okL:IC->Bool
 | .seq a b | .cond _ a b=>a.okL&&b.okL
 | .block _ b | .scope b=>b.okL
 | .loop b=>(match b with | .pt ..=>true | _=>false)&&b.okL
 | .pt i _ c=>Nat.blt i 4096&&c.okL
 | .rangeFunc i ..=>Nat.blt i 4096
 | _=>true
theorem q4x:∀(n:Nat) (l:List Bool),(z6l n l).length=n
 | 0,_=>rfl
 |n+1,[]=>by simp only[z6l,xAi,q4x n]
 |n+1,_::l=>by simp only[z6l,xAi,q4x n]
theorem q8n:∀(t:List AV) (l:List Bool),mask (z6l t.length l) t=mask l t
 |[],l=>by cases l<;>rfl
 |v::t,[]=>by
  show .undef::mask (z6l t.length []) t=.undef::mask [] t;rw[q8n t]
 |v::t,true::l=>by
  show v::mask (z6l t.length l) t=v::mask l t;rw[q8n t]
 |v::t,false::l=>by
  show .undef::mask (z6l t.length l) t=.undef::mask l t;rw[q8n t]
theorem q9O (t:List AV):∀(bs:List Bool) (j:Nat),j+bs.length=t.length->spread bs ((q6U j bs).map (nth t))=mask bs (t.drop j)
 |[],j,h=>by rw[xDd (by simp at h;omega)];rfl
 |b::bs,j,h=>by
  have hj:j<t.length:=by simp at h;omega
  have ih:=q9O t bs (j+1) (by simp at h;omega);rw[xAk hj];cases b with
  |true=>
   show nth t j::spread bs ((q6U (j+1) bs).map (nth t))=t[j]::mask bs (t.drop (j+1));rw[ih,q3M,xAe,xgq hj];rfl
  |false=>
   have hu:∀vs,spread (false::bs) vs=.undef::spread bs vs:=fun vs=>by cases vs<;>rfl
   show spread (false::bs) ((q6U (j+1) bs).map (nth t))=.undef::mask bs (t.drop (j+1));rw[hu,ih]
theorem q7E:∀(t:List AV),spread (List.replicate t.length true) t=t
 |[]=>rfl
 |v::t=>by
  show v::spread (List.replicate t.length true) t=_;rw[q7E t]
theorem z5A (t:List AV):(List.range t.length).map (nth t)=t:=by
 apply List.ext_getElem
 ·simp
 ·intro i h1 h2;simp only[xgm,List.getElem_range];rw[q3M,xAe,xgq h2];rfl
section
variable {E:Env} {f nt:Nat} {rs:List ResultVar} {d:Do}
theorem a6D {e:Ev}:∀(is:List Nat) (K:List AV->CM),lsK e is K=K (is.map fun i=>(fnd i e).v)
 |[],K=>rfl
 |i::is,K=>by
  unfold lsK;rw[q82,a6D is];rfl
theorem z19 {e:Ev} {t:List AV} (h:Rel nt e t) (is:List Nat) (K:List AV->CM):lsK e is K=K (is.map (nth t)):=by
 rw[a6D];congr 1;exact List.map_congr_left fun i _=>h.2 i
def j0B (E:Env) (f nt:Nat) (c:IC) (k:List AI):Prop:=∀x∈mkL c k,kAt E f x.1=x.2.2/\x.1<4096/\Mq E (4096*f+x.1)=z6l nt x.2.1
def j3C (E:Env) (f nt:Nat) (c:IC) (k:List AI):Prop:=∀x∈lpL c k,j85 E f x.1=x.2.2/\(loops (codeOf E f))[x.1]? = some x.2.1/\x.1<4096/\Nq E (4096*f+x.1)=List.replicate nt true
def KOk (E:Env) (nt:Nat) (rs:List ResultVar) (k:List AI) (K:Ev->CM):Prop:=∀e t m,Rel nt e t->q0a (real E (Mq E) (Nq E)) (K e) m=go E (mdR rs) k t m
def j1U (E:Env) (nt:Nat) (rs:List ResultVar) (k:List AI) (ex:List (Nat×(Ev->CM))):Prop:=∀id e t m,Rel nt e t->
 q0a (real E (Mq E) (Nq E)) (exK ex id e) m=match q4g id k with|some k'=>go E (mdR rs) k' t m|none=>none
theorem j1U.push {k:List AI} {ex:List (Nat×(Ev->CM))} (h:j1U E nt rs k ex) {x:AI} (hx:∀id,x≠.inBlock id):j1U E nt rs (x::k) ex:=fun id e t m hr=>by
 rw[h id e t m hr];cases x with
 |inBlock id=>exact absurd rfl (hx id)
 | _=>rfl
theorem j1U.block {k:List AI} {ex:List (Nat×(Ev->CM))} (h:j1U E nt rs k ex) {K:Ev->CM} (hK:KOk E nt rs k K) (j:Nat):j1U E nt rs (.inBlock j::k) ((j,K)::ex):=fun id e t m hr=>by
 show q0a _ (match Nat.beq j id with|true=>K e|false=>exK ex id e) m=match (if j=id then some k else q4g id k) with|some k'=>go E (mdR rs) k' t m|none=>none
 rw[a0L];by_cases hj:j=id
 ·rw[dt hj,xAb hj];exact hK e t m hr
 ·rw[df hj,xAa hj];exact h id e t m hr
theorem q3L {f i:Nat} (h:i<4096):(4096*f+i) / 4096=f/\(4096*f+i) % 4096=i:=by omega
theorem a5M {i:Nat} {live:List Bool} {k:List AI} (hk:kAt E f i=k) (hi:i<4096) (hM:Mq E (4096*f+i)=z6l nt live) (hrs:q8s E f=rs) {e:Ev} {t:List AV} (h:Rel nt e t) (m:Mem) :
  q0a (real E (Mq E) (Nq E)) (goK f nt i live e) m=go E (mdR rs) k (mask live t) m:=by
 unfold goK;rw[z19 h,z4W];show q7s E ((4096*f+i) / 4096) ((4096*f+i) % 4096) (spread (Mq E (4096*f+i)) _) m=_;rw[(q3L hi).1,(q3L hi).2,hM,q9O t (z6l nt live) 0 (by rw[q4x,h.1];omega),xAp,<-h.1,q8n];show go E (mdR (q8s E f)) (kAt E f i) _ m=_;rw[hrs,hk]
theorem z5G {P:Program} {t:List AV} {m:Mem}:∀{l:List ResultVar},z8H l=true->q0P P l t m=some (l.map fun r=>nth t (rvI r))
 |[],_=>rfl
 | .tmp i::l,h=>by
  show (match q0P P l t m with|some vs=>some (nth t i::vs)|none=>none)=_
  rw[z5G (l:=l) h];rfl
theorem j9v (pre us:List AV) (j:Nat):nth (pre++us) (pre.length+j)=nth us j:=by
 rw[q3M,q3M,xAe,xAe,xBl (Nat.le_add_right _ _),xEp]
theorem q7B {P:Program} {t:List AV} {m:Mem}:∀(l:List ResultVar) (pre:List AV),q0P P (z7r pre.length l) (pre++l.map fun r=>nth t (rvI r)) m=q0P P l t m
 |[],pre=>rfl
 | .tmp i::l,pre=>by
  have ih:=q7B (t:=t) (m:=m) (P:=P) l (pre++[nth t i]);have e1:nth (pre++(nth t i::l.map fun r=>nth t (rvI r))) pre.length=nth t i:=j9v pre _ 0
  simp only[xla0,xEe,xAg,List.singleton_append]at ih;show (match q0P P (z7r (pre.length+1) l) (pre++(nth t i::l.map fun r=>nth t (rvI r))) m with|some vs=>some (nth (pre++(nth t i::l.map fun r=>nth t (rvI r))) pre.length::vs)|none=>none)=_
  rw[ih,e1];rfl
 | .cell a ty::l,pre=>by
  have ih:=q7B (t:=t) (m:=m) (P:=P) l (pre++[nth t a]);have e1:nth (pre++(nth t a::l.map fun r=>nth t (rvI r))) pre.length=nth t a:=j9v pre _ 0
  simp only[xla0,xEe,xAg,List.singleton_append]at ih;show (match q1H P ty (nth (pre++(nth t a::l.map fun r=>nth t (rvI r))) pre.length) m,q0P P (z7r (pre.length+1) l) (pre++(nth t a::l.map fun r=>nth t (rvI r))) m with|some v,some vs=>some (v::vs) | _,_=>none)=_
  rw[ih,e1];rfl
theorem z7s {e:Ev} {t:List AV} (h:Rel nt e t) (m:Mem) (k:List AI):q0a (real E (Mq E) (Nq E)) (a4j (q0c E) nt rs e) m=go E (mdR rs) (.code .ret::k) t m:=by
 rw[go_step];unfold a4j mdR;cases hd:j8X rs with
 |true=>
  simp only;rw[z19 h,<-h.1,z5A];rfl
 |false=>
  simp only;rw[z19 h,List.map_map];show _=(q0P E.P rs t m).bind fun vs=>some (q0T vs,m)
  cases ha:z8H rs with
  |true=>rw[z5G ha];rfl
  |false=>
   simp only[q9o];show (q0P E.P (z7r 0 rs) ([]++rs.map fun r=>nth t (rvI r)) m).bind _=_
   have:=q7B (P:=E.P) (t:=t) (m:=m) rs [];simp only[xAv]at this;rw[this]
theorem a4k {e:Ev} {t:List AV} (h:Rel nt e t) (m:Mem):q0a (real E (Mq E) (Nq E)) (a4j (q0c E) nt rs e) m=go E (mdR rs) [] t m:=by
 rw[z7s h m [],go_step,go_step];unfold mdR;cases j8X rs<;>rfl
theorem j0B.sub {c:IC} {k:List AI} (h:j0B E f nt c k) {c':IC} {k':List AI} (hs:∀x∈mkL c' k',x∈mkL c k):j0B E f nt c' k':=fun x hx=>h x (hs x hx)
theorem j3C.sub {c:IC} {k:List AI} (h:j3C E f nt c k) {c':IC} {k':List AI} (hs:∀x∈lpL c' k',x∈lpL c k):j3C E f nt c' k':=fun x hx=>h x (hs x hx)
theorem z18 {b:IC} {k:List AI} (hm:j0B E f nt (.loop b) k) (ho:(IC.loop b).okL=true) (hrs:q8s E f=rs):KOk E nt rs (.code b.er::.inLoop b.er::k) (a3I f nt b):=by
 intro e t m h;cases b with
 |pt i live c=>
  obtain⟨h1,h2,h3⟩:=hm (i,live,.code c.er::.inLoop (IC.pt i live c).er::k) (by simp[mkL]);show q0a _ (goK f nt i live e) m=_;rw[a5M h1 h2 h3 hrs h,go_step (k:=.code _::.inLoop _::_) (t:=t)];rfl
 | _=>simp[IC.okL]at ho
theorem j6O (id:Nat) (k:List AI) (t:List AV) (m:Mem):go E (mdR rs) (.code (.exit id)::k) t m=match q4g id k with|some k'=>go E (mdR rs) k' t m|none=>none:=by
 rw[go_step];show (match q4g id k with|some k'=>go E (mdR rs) k' t m|none=>fin E.P (mdR rs) (some (.exit id)) t m)=_
 cases q4g id k with
 |some k'=>rfl
 |none=>unfold mdR;cases j8X rs<;>rfl
theorem q20 (hrs:q8s E f=rs):∀(c:IC) {k:List AI} {ex:List (Nat×(Ev->CM))} {K:Ev->CM},j0B E f nt c k->j3C E f nt c k->c.okL=true->KOk E nt rs k K->j1U E nt rs k ex->
  KOk E nt rs (.code c.er::k) (q6u (q0c E) E.P f nt rs c ex K)
 | .skip,k,ex,K,hm,hl,ho,hK,hE=>fun e t m h=>by rw[go_step];exact hK e t m h
 | .region id ops draw chk anc,k,ex,K,hm,hl,ho,hK,hE=>fun e t m h=>by
  rw[go_step];unfold q6u;cases draw with
  |true=>exact q5A (E:=E) (d:=real E (Mq E) (Nq E)) ops hK ops chk [] 0 [] [] [] e t m .nil h (fun _ hi=>by cases hi)
  |false=>
   show q0a _ (match q9z ops with|some (it,d,os)=>_|none=>_) m=(match q9z ops with|some (it,d,os)=>_|none=>_)
   cases q9z ops with
   |none=>exact z2i (E:=E) (d:=real E (Mq E) (Nq E)) ops hK ops [] e t m h (fun _ hi=>by cases hi)
   |some x=>
    obtain⟨it,dd,os⟩:=x;refine q06 h it (F:=fun x=>nextR x m fun v m=>z5o (run E) E.P ops os [] (q3U t dd v) m fun t m=>go E (mdR rs) k t m) fun x=>?_
    rw[j0W];congr 1
    funext v m
    exact z2i (E:=E) (d:=real E (Mq E) (Nq E)) ops hK os [] _ _ m (h.q3U dd (.d v)) (fun _ hi=>by cases hi)
 | .seq a b,k,ex,K,hm,hl,ho,hK,hE=>fun e t m h=>by
  rw[go_step];simp only[IC.okL,xAc]at ho;have hb:=q20 hrs b (hm.sub fun x hx=>by simp[mkL,hx]) (hl.sub fun x hx=>by simp[lpL,hx]) ho.2 hK hE
  exact q20 hrs a (hm.sub fun x hx=>by simp[mkL,hx]) (hl.sub fun x hx=>by simp[lpL,hx]) ho.1 hb (hE.push fun _=>by simp) e t m h
 | .cond c x y,k,ex,K,hm,hl,ho,hK,hE=>fun e t m h=>by
  rw[go_step];simp only[IC.okL,xAc]at ho;have hx:=q20 hrs x (hm.sub fun z hz=>by simp[mkL,hz]) (hl.sub fun z hz=>by simp[lpL,hz]) ho.1 hK hE e t m h
  have hy:=q20 hrs y (hm.sub fun z hz=>by simp[mkL,hz]) (hl.sub fun z hz=>by simp[lpL,hz]) ho.2 hK hE e t m h
  refine q06 h c (F:=fun v=>q0b v (go E (mdR rs) (.code x.er::k) t m) (go E (mdR rs) (.code y.er::k) t m)) fun v=>?_
  cases v with
  |c a=>
   cases a with
   |bool b=>cases b with
    |true=>exact hx
    |false=>exact hy
   | _=>rfl
  |d a=>
   simp only[q9m,hx,hy];rfl
 | .block id b,k,ex,K,hm,hl,ho,hK,hE=>fun e t m h=>by
  rw[go_step];exact q20 hrs b (k:=.inBlock id::k) hm hl ho (fun e t m h=>by rw[go_step];exact hK e t m h) (hE.block hK id) e t m h
 | .loop b,k,ex,K,hm,hl,ho,hK,hE=>fun e t m h=>by
  rw[go_step];exact z18 hm ho hrs e t m h
 | .scope b,k,ex,K,hm,hl,ho,hK,hE=>fun e t m h=>by
  rw[go_step];exact q20 hrs b (k:=.inScope b.er::k) hm hl ho (fun e t m h=>by rw[go_step];exact hK e t m h) (hE.push fun _=>by simp) e t m h
 | .rangeFunc i fo ps a b,k,ex,K,hm,hl,ho,hK,hE=>fun e t m h=>by
  rw[go_step];obtain⟨h1,h2,h3,h4⟩:=hl (i,(ps,a,b),k) (by simp[lpL]);refine q06 h fo (F:=fun fv=>q2E (run E) (mdR rs) fv ⟨.ready,none,t,ps,a,b⟩ m fun j m=>go E (mdR rs) (pend j k) t m) fun fv=>?_
  rw[z19 h,<-h.1,z5A,j0Y];show q2E (run E) (mdR (q8s E f)) fv.v (z9O E f i t) m (fun j m=>j3D E ((4096*f+i) / 4096) ((4096*f+i) % 4096) j (spread (Nq E (4096*f+i)) t) m)=_
  rw[(q3L h3).1,(q3L h3).2,h4,<-h.1,q7E,hrs];have hlo:z9O E f i t=⟨.ready,none,t,ps,a,b⟩:=by unfold z9O;rw[h2]
  rw[hlo];congr 1
  funext j m
  show go E (mdR (q8s E f)) (pend j (j85 E f i)) t m=_;rw[hrs,h1]
 | .exit id,k,ex,K,hm,hl,ho,hK,hE=>fun e t m h=>(hE id e t m h).trans (j6O id k t m).symm
 | .ret,k,ex,K,hm,hl,ho,hK,hE=>fun e t m h=>z7s h m k
 | .pt i live c,k,ex,K,hm,hl,ho,hK,hE=>fun e t m h=>by
  obtain⟨h1,h2,h3⟩:=hm (i,live,.code c.er::k) (by simp[mkL]);rw[go_step];exact a5M h1 h2 h3 hrs h m
 | .other c,k,ex,K,hm,hl,ho,hK,hE=>fun e t m h=>by
  rw[go_step];cases c with
  |label l=>exact hK e t m h
  | _=>rfl
theorem q2A (hrs:q8s E f=rs):∀(c:IC) {k:List AI} {ex:List (Nat×(Ev->CM))} {K:Ev->CM},j0B E f nt c k->j3C E f nt c k->c.okL=true->KOk E nt rs k K->j1U E nt rs k ex->
  ∀x∈q38 (q0c E) E.P f nt rs c ex K,∃k',(x.1,x.2.1,k')∈mkL c k/\KOk E nt rs k' x.2.2
 | .skip,_,_,_,_,_,_,_,_,x,hx | .region ..,_,_,_,_,_,_,_,_,x,hx | .exit _,_,_,_,_,_,_,_,_,x,hx | .ret,_,_,_,_,_,_,_,_,x,hx | .rangeFunc ..,_,_,_,_,_,_,_,_,x,hx | .other _,_,_,_,_,_,_,_,_,x,hx=>by simp[q38]at hx
 | .pt i live c,k,ex,K,hm,hl,ho,hK,hE,x,hx=>by
  simp only[IC.okL,xAc]at ho;have hm':j0B E f nt c k:=hm.sub fun x hx=>by simp[mkL,hx]
  simp only[q38,xmk0]at hx;rcases hx with rfl|hx
  ·exact⟨.code c.er::k,by simp[mkL],q20 hrs c hm' hl ho.2 hK hE⟩
  ·obtain⟨k',h1,h2⟩:=q2A hrs c hm' hl ho.2 hK hE x hx;exact⟨k',by simp[mkL,h1],h2⟩
 | .seq a b,k,ex,K,hm,hl,ho,hK,hE,x,hx=>by
  simp only[IC.okL,xAc]at ho;have hma:j0B E f nt a (.code b.er::k):=hm.sub fun x hx=>by simp[mkL,hx]
  have hmb:j0B E f nt b k:=hm.sub fun x hx=>by simp[mkL,hx]
  have hla:j3C E f nt a (.code b.er::k):=hl.sub fun x hx=>by simp[lpL,hx]
  have hlb:j3C E f nt b k:=hl.sub fun x hx=>by simp[lpL,hx]
  simp only[q38,xma]at hx;rcases hx with hx|hx
  ·obtain⟨k',h1,h2⟩:=q2A hrs a hma hla ho.1 (q20 hrs b hmb hlb ho.2 hK hE) (hE.push fun _=>by simp) x hx
   exact⟨k',by simp[mkL,h1],h2⟩
  ·obtain⟨k',h1,h2⟩:=q2A hrs b hmb hlb ho.2 hK hE x hx;exact⟨k',by simp[mkL,h1],h2⟩
 | .cond _ a b,k,ex,K,hm,hl,ho,hK,hE,x,hx=>by
  simp only[IC.okL,xAc]at ho;simp only[q38,xma]at hx;rcases hx with hx|hx
  ·obtain⟨k',h1,h2⟩:=q2A hrs a (hm.sub fun x hx=>by simp[mkL,hx]) (hl.sub fun x hx=>by simp[lpL,hx]) ho.1 hK hE x hx
   exact⟨k',by simp[mkL,h1],h2⟩
  ·obtain⟨k',h1,h2⟩:=q2A hrs b (hm.sub fun x hx=>by simp[mkL,hx]) (hl.sub fun x hx=>by simp[lpL,hx]) ho.2 hK hE x hx
   exact⟨k',by simp[mkL,h1],h2⟩
 | .block id b,k,ex,K,hm,hl,ho,hK,hE,x,hx=>q2A hrs b (k:=.inBlock id::k) hm hl ho (fun e t m h=>by rw[go_step];exact hK e t m h) (hE.block hK id) x hx
 | .loop b,k,ex,K,hm,hl,ho,hK,hE,x,hx=>by
  have ho':b.okL=true:=by simp only[IC.okL,xAc]at ho;exact ho.2
  exact q2A hrs b (k:=.inLoop b.er::k) hm hl ho' (fun e t m h=>by rw[go_step];exact z18 hm ho hrs e t m h) (hE.push fun _=>by simp) x hx
 | .scope b,k,ex,K,hm,hl,ho,hK,hE,x,hx=>q2A hrs b (k:=.inScope b.er::k) hm hl ho (fun e t m h=>by rw[go_step];exact hK e t m h) (hE.push fun _=>by simp) x hx
theorem q2w (hrs:q8s E f=rs):∀(c:IC) {k:List AI} {ex:List (Nat×(Ev->CM))} {K:Ev->CM},j0B E f nt c k->j3C E f nt c k->c.okL=true->KOk E nt rs k K->j1U E nt rs k ex->
  ∀x∈q36 (q0c E) E.P f nt rs c ex K,∃k' p,(x.1,p,k')∈lpL c k/\KOk E nt rs k' x.2.1/\j1U E nt rs k' x.2.2
 | .skip,_,_,_,_,_,_,_,_,x,hx | .region ..,_,_,_,_,_,_,_,_,x,hx | .exit _,_,_,_,_,_,_,_,_,x,hx | .ret,_,_,_,_,_,_,_,_,x,hx | .other _,_,_,_,_,_,_,_,_,x,hx=>by simp[q36]at hx
 | .rangeFunc i _ ps a b,k,ex,K,hm,hl,ho,hK,hE,x,hx=>by
  simp only[q36,xms]at hx;subst hx;exact⟨k,(ps,a,b),by simp[lpL],hK,hE⟩
 | .pt i live c,k,ex,K,hm,hl,ho,hK,hE,x,hx=>by
  simp only[IC.okL,xAc]at ho;exact q2w hrs c (hm.sub fun x hx=>by simp[mkL,hx]) hl ho.2 hK hE x hx
 | .seq a b,k,ex,K,hm,hl,ho,hK,hE,x,hx=>by
  simp only[IC.okL,xAc]at ho;have hma:j0B E f nt a (.code b.er::k):=hm.sub fun x hx=>by simp[mkL,hx]
  have hmb:j0B E f nt b k:=hm.sub fun x hx=>by simp[mkL,hx]
  have hla:j3C E f nt a (.code b.er::k):=hl.sub fun x hx=>by simp[lpL,hx]
  have hlb:j3C E f nt b k:=hl.sub fun x hx=>by simp[lpL,hx]
  simp only[q36,xma]at hx;rcases hx with hx|hx
  ·obtain⟨k',p,h1,h2⟩:=q2w hrs a hma hla ho.1 (q20 hrs b hmb hlb ho.2 hK hE) (hE.push fun _=>by simp) x hx
   exact⟨k',p,by simp[lpL,h1],h2⟩
  ·obtain⟨k',p,h1,h2⟩:=q2w hrs b hmb hlb ho.2 hK hE x hx;exact⟨k',p,by simp[lpL,h1],h2⟩
 | .cond _ a b,k,ex,K,hm,hl,ho,hK,hE,x,hx=>by
  simp only[IC.okL,xAc]at ho;simp only[q36,xma]at hx;rcases hx with hx|hx
  ·obtain⟨k',p,h1,h2⟩:=q2w hrs a (hm.sub fun x hx=>by simp[mkL,hx]) (hl.sub fun x hx=>by simp[lpL,hx]) ho.1 hK hE x hx
   exact⟨k',p,by simp[lpL,h1],h2⟩
  ·obtain⟨k',p,h1,h2⟩:=q2w hrs b (hm.sub fun x hx=>by simp[mkL,hx]) (hl.sub fun x hx=>by simp[lpL,hx]) ho.2 hK hE x hx
   exact⟨k',p,by simp[lpL,h1],h2⟩
 | .block id b,k,ex,K,hm,hl,ho,hK,hE,x,hx=>q2w hrs b (k:=.inBlock id::k) hm hl ho (fun e t m h=>by rw[go_step];exact hK e t m h) (hE.block hK id) x hx
 | .loop b,k,ex,K,hm,hl,ho,hK,hE,x,hx=>by
  have ho':b.okL=true:=by simp only[IC.okL,xAc]at ho;exact ho.2
  exact q2w hrs b (k:=.inLoop b.er::k) hm hl ho' (fun e t m h=>by rw[go_step];exact z18 hm ho hrs e t m h) (hE.push fun _=>by simp) x hx
 | .scope b,k,ex,K,hm,hl,ho,hK,hE,x,hx=>q2w hrs b (k:=.inScope b.er::k) hm hl ho (fun e t m h=>by rw[go_step];exact hK e t m h) (hE.push fun _=>by simp) x hx
theorem z0r {d:Do}:∀{n:Nat} {F:List AV->CM} {g:List AV->Mem->R},(∀az,az.length=n->∀m,g az m=q0a d (F az) m)->EqD d (apN n F) g
 | 0,F,g,h=>zE fun m=>h [] rfl m
 |n+1,F,g,h=>sE fun a=>z0r fun az ha m=>h (a::az) (by simp[ha]) m
theorem z8Z:∀(az:List AV) (j i:Nat),(fnd i (a18 j az)).v=if j<=i then nth az (i-j) else .undef
 |[],j,i=>by
  show AV.undef=_;split
  ·exact(a6F (by simp)).symm
  ·rfl
 |a::az,j,i=>by
  show (fnd i ((j,.d a)::a18 (j+1) az)).v=_;rw[z1F];by_cases h:j=i
  ·subst h;rw[xAb rfl,xAb (xnr _),xFu];rfl
  ·rw[xAa h,z8Z az (j+1) i];by_cases h2:j<=i
   ·rw[xAb h2,xAb (by omega),show i-j=(i-(j+1))+1 by omega];rfl
   ·rw[xAa h2,xAa (by omega)]
theorem j1b (az:List AV) (n i:Nat):nth (az++List.replicate n .undef) i=nth az i:=by
 rw[q3M,q3M,xAe,xAe];by_cases h:i<az.length
 ·rw[xBj h]
 ·rw[xBl (by omega),xAu (l:=az) (by omega),List.getElem?_replicate];split<;>rfl
theorem z81 {az:List AV} (h:az.length<=nt):Rel nt (a18 0 az) (az++List.replicate (nt-az.length) .undef):=by
 refine⟨by simp;omega,fun i=>?_⟩
 rw[z8Z,xAb (xBx _),j1b];rfl
theorem z1w:∀(bs:List Bool) (j:Nat) (ts:List AV),ts.length=(q6U j bs).length->∀i,(fnd i (b3K (q6U j bs) ts)).v=if j<=i then nth (spread bs ts) (i-j) else .undef
 |[],j,ts,h,i=>by
  show AV.undef=_;have:nth (spread [] ts) (i-j)=.undef:=by cases ts<;>rfl
  rw[this];split<;>rfl
 |true::bs,j,[],h,i=>by simp[q6U]at h
 |true::bs,j,v::ts,h,i=>by
  show (fnd i ((j,.d v)::b3K (q6U (j+1) bs) ts)).v=_;rw[z1F];by_cases hj:j=i
  ·subst hj;rw[xAb rfl,xAb (xnr _),xFu];rfl
  ·rw[xAa hj,z1w bs (j+1) ts (by simpa[q6U]using h) i];by_cases h2:j<=i
   ·rw[xAb h2,xAb (by omega),show i-j=(i-(j+1))+1 by omega];rfl
   ·rw[xAa h2,xAa (by omega)]
 |false::bs,j,ts,h,i=>by
  have hu:spread (false::bs) ts=.undef::spread bs ts:=by cases ts<;>rfl
  show (fnd i (b3K (q6U (j+1) bs) ts)).v=_;rw[z1w bs (j+1) ts h i,hu];by_cases h2:j+1<=i
  ·rw[xAb h2,xAb (by omega),show i-j=(i-(j+1))+1 by omega];rfl
  ·rw[xAa h2];split
   ·rw[show i-j=0 by omega];rfl
   ·rfl
theorem q3r:∀(bs:List Bool) (ts:List AV),(spread bs ts).length=bs.length
 |[],ts=>by cases ts<;>rfl
 |true::bs,v::ts=>by simp[spread,q3r bs ts]
 |true::bs,[]=>by simp[spread,q3r bs []]
 |false::bs,ts=>by
  have hu:spread (false::bs) ts=.undef::spread bs ts:=by cases ts<;>rfl
  rw[hu];simp[q3r bs ts]
structure a6W (E:Env) (f:Nat) (x:Ent):Prop where
 fn:E.H f=none->j8X (q8s E f)=false->EqD (real E (Mq E) (Nq E)) x.fn fun az m=>run E (.fn f) az m
 gs:∀y∈x.gs,EqD (real E (Mq E) (Nq E)) y.2 fun ts m=>goR E (Mq E) y.1 ts m
 ls:∀y∈x.ls,EqD (real E (Mq E) (Nq E)) y.2.1 (fun ts m=>afR E (Nq E) y.1 none ts m)/\EqD (real E (Mq E) (Nq E)) y.2.2.1 (fun ts m=>afR E (Nq E) y.1 (some .ret) ts m)/\
  ∀z∈y.2.2.2,EqD (real E (Mq E) (Nq E)) z.2 fun ts m=>afR E (Nq E) y.1 (some (.exit z.1)) ts m
theorem a8S {c:AC} {na:Nat} (hB:E.B f=some (rs,nt,c)) (hna:na<=nt) (ho:(index c 0 0).okL=true):a6W E f (b5z (q0c E) E.P f nt rs na (index c 0 0)):=by
 have hrs:q8s E f=rs:=by unfold q8s;rw[hB]
 have hc:codeOf E f=c:=by unfold codeOf;rw[hB]
 have hnt:b1R E f=nt:=by unfold b1R;rw[hB]
 have oks:∀(c:IC) (k:List AI),c.okL=true->(∀x∈mkL c k,x.1<4096)/\∀x∈lpL c k,x.1<4096:=by
  intro c;induction c with
  |pt i live c ih=>
   intro k ho;simp only[IC.okL,xAc]at ho;refine⟨fun x hx=>?_,fun x hx=>(ih k ho.2).2 x hx⟩
   simp only[mkL,xmk0]at hx;rcases hx with rfl|hx
   ·have:=ho.1;rw[b1P]at this;exact xCk this
   ·exact(ih k ho.2).1 x hx
  |seq a b iha ihb=>
   intro k ho;simp only[IC.okL,xAc]at ho;refine⟨fun x hx=>?_,fun x hx=>?_⟩
   ·simp only[mkL,xma]at hx;exact hx.elim ((iha _ ho.1).1 x) ((ihb _ ho.2).1 x)
   ·simp only[lpL,xma]at hx;exact hx.elim ((iha _ ho.1).2 x) ((ihb _ ho.2).2 x)
  |cond _ a b iha ihb=>
   intro k ho;simp only[IC.okL,xAc]at ho;refine⟨fun x hx=>?_,fun x hx=>?_⟩
   ·simp only[mkL,xma]at hx;exact hx.elim ((iha _ ho.1).1 x) ((ihb _ ho.2).1 x)
   ·simp only[lpL,xma]at hx;exact hx.elim ((iha _ ho.1).2 x) ((ihb _ ho.2).2 x)
  |block id b ih=>exact fun k ho=>ih (.inBlock id::k) ho
  |scope b ih=>exact fun k ho=>ih (.inScope b.er::k) ho
  |loop b ih=>
   intro k ho;simp only[IC.okL,xAc]at ho;exact ih (.inLoop b.er::k) ho.2
  |rangeFunc i fo ps a b=>
   intro k ho;refine⟨fun x hx=>by simp[mkL]at hx,fun x hx=>?_⟩
   simp only[lpL,xms]at hx;subst hx;have:Nat.blt i 4096=true:=ho;rw[b1P]at this;exact xCk this
  | _=>exact fun k _=>⟨fun x hx=>by simp[mkL]at hx,fun x hx=>by simp[lpL]at hx⟩
 have hm:j0B E f nt (index c 0 0) []:=fun x hx=>by
  obtain⟨i,h1,h2⟩:=q2B c 0 0 [] x hx;have h1:x.1=i:=by omega
  have h4:=(oks _ _ ho).1 x hx;refine⟨?_,h4,?_⟩
  ·unfold kAt;rw[hc,<-q1y,xBi,h1,h2];rfl
  ·unfold Mq;rw[(q3L h4).1,(q3L h4).2,hc,hnt,h1,h2];rfl
 have hl:j3C E f nt (index c 0 0) []:=fun x hx=>by
  obtain⟨i,h1,h2,h3⟩:=q2x c 0 0 [] x hx;have h1:x.1=i:=by omega
  have h4:=(oks _ _ ho).2 x hx;refine⟨?_,?_,h4,?_⟩
  ·unfold j85;rw[hc,h1,h3];rfl
  ·rw[hc,h1];exact h2
  ·unfold Nq;rw[(q3L h4).1,hnt]
 have hK:KOk E nt rs [] fun e=>a4j (q0c E) nt rs e:=fun e t m h=>a4k h m
 have hE:j1U E nt rs [] []:=fun id e t m h=>rfl
 refine⟨fun hH hd=>z0r fun az ha m=>?_,fun y hy=>?_,fun y hy=>?_⟩
 ·rw[z2x hH hB];have:=q20 hrs _ hm hl ho hK hE _ _ m (z81 (az:=az) (nt:=nt) (by omega));rw[q1w]at this;rw[hrs]at hd;have hmd:mdR rs=.fn rs:=by unfold mdR;rw[hd]
  rw[hmd]at this;exact this.symm
 ·obtain⟨x,hx,rfl⟩:=xBr.1 hy;obtain⟨k',h1,h2⟩:=q2A hrs _ hm hl ho hK hE x hx;obtain⟨h3,h4,h5⟩:=hm _ h1;refine z0r fun ts ht m=>?_
  show go E (mdR (q8s E ((4096*f+x.1) / 4096))) (kAt E ((4096*f+x.1) / 4096) ((4096*f+x.1) % 4096)) (spread (Mq E (4096*f+x.1)) ts) m=_;rw[(q3L h4).1,(q3L h4).2,h5,h3,hrs];refine(h2 _ _ m ⟨?_,fun i=>?_⟩).symm
  ·rw[q3r,q4x]
  ·rw[z1w _ 0 ts ht i,xAb (xBx _)];rfl
 ·obtain⟨x,hx,rfl⟩:=xBr.1 hy;obtain⟨k',p,h1,h2,h3⟩:=q2w hrs _ hm hl ho hK hE x hx;obtain⟨h4,_,h5,h6⟩:=hl _ h1;have hrel:∀ts:List AV,ts.length=nt->Rel nt (a18 0 ts) ts:=fun ts ht=>by
   have:=z81 (az:=ts) (nt:=nt) (by omega);rw[ht,xFu,List.replicate_zero,xBe]at this;exact this
  have haf:∀(j:Option Jmp) (ts:List AV) (m:Mem),ts.length=nt->afR E (Nq E) (4096*f+x.1) j ts m=go E (mdR rs) (pend j k') ts m:=fun j ts m ht=>by
   show go E (mdR (q8s E ((4096*f+x.1) / 4096))) (pend j (j85 E ((4096*f+x.1) / 4096) ((4096*f+x.1) % 4096))) (spread (Nq E (4096*f+x.1)) ts) m=_;rw[(q3L h5).1,(q3L h5).2,h6,h4,hrs,<-ht,q7E]
  refine⟨z0r fun ts ht m=>?_,z0r fun ts ht m=>?_,fun z hz=>?_⟩
  ·rw[haf none ts m ht];exact(h2 _ _ m (hrel ts ht)).symm
  ·rw[haf (some .ret) ts m ht];exact(z7s (hrel ts ht) m k').symm
  ·obtain⟨y,hy,rfl⟩:=xBr.1 hz;refine z0r fun ts ht m=>?_
   rw[haf (some (.exit y.1)) ts m ht];exact(j6O y.1 k' ts m).trans (h3 y.1 _ _ m (hrel ts ht)).symm
end
end
noncomputable section
def b8h (O:Ops) (P:Program) (f:Nat) (fn:Func) (h:Hint):Ent:=
 match fn.body with
 |some c=>b5z O P f fn.ntmps fn.results.toList (fn.params.size+fn.nfree) (index (q3T c h) 0 0)
 |none=>⟨fun _=>.fail,[],[]⟩
structure Tr (P:Program) (f:Nat) (fn:Func) (h:Hint) where
 x:Ops->Ent
 eq:∀O,x O=b8h O P f fn h
structure En (P:Program) (B:FuncId->Option (List ResultVar×Nat×AC)) where
 f:Nat
 na:Nat
 rs:List ResultVar
 nt:Nat
 c:AC
 hB:B f=some (rs,nt,c)
 x:Ops->Ent
 eq:∀O,x O=b5z O P f nt rs na (index c 0 0)
theorem j3P {P:Program} {hints:FuncId->Option Hint} {f:Nat} {fn:Func} {h:Hint} {c:Code} (hf:P.funcs[f]? = some fn) (hh:hints f=some h) (hb:fn.body=some c):q8L P hints f=some (fn.results.toList,fn.ntmps,q3T c h):=by
 unfold q8L;rw[hh,hf];simp only[hb]
def Tr.en {P:Program} {hints:FuncId->Option Hint} {f:Nat} {fn:Func} {h:Hint} {c:Code} (t:Tr P f fn h) (hf:P.funcs[f]? = some fn) (hh:hints f=some h) (hb:fn.body=some c):En P (q8L P hints):=
 ⟨f,fn.params.size+fn.nfree,fn.results.toList,fn.ntmps,q3T c h,j3P hf hh hb,t.x,fun O=>by rw[t.eq];unfold b8h;rw[hb]⟩
def q93 {P:Program} {B:FuncId->Option (List ResultVar×Nat×AC)} (e:En P B):Bool:=Nat.ble e.na e.nt&&(index e.c 0 0).okL
section
variable {P:Program} {B:FuncId->Option (List ResultVar×Nat×AC)}
abbrev EX (P:Program) (B:FuncId->Option (List ResultVar×Nat×AC)) (H:FuncId->Option (List AV->Mem->R)):Env:=⟨P,B,H⟩
abbrev OX (P:Program) (B:FuncId->Option (List ResultVar×Nat×AC)):Ops:=q0c (EX P B fun _=>none)
def En.t (e:En P B):Ent:=e.x (OX P B)
theorem En.ok (e:En P B) (hc:q93 e=true) (H:FuncId->Option (List AV->Mem->R)):a6W (EX P B H) e.f e.t:=by
 unfold q93 at hc;rw[xAc]at hc;show a6W _ e.f (e.x (OX P B));rw[e.eq];exact a8S (E:=EX P B H) e.hB (xEb hc.1) hc.2
def q72 {α:Type} (id:Nat) (l:List (Nat×α)):Option α:=
 match l with
 |[]=>none
 |(i,D)::l=>match Nat.beq i id with
  |true=>some D
  |false=>q72 id l
theorem q5e {α:Type} {id:Nat} {D:α}:∀{l:List (Nat×α)},q72 id l=some D->(id,D)∈l
 |[],h=>by simp[q72]at h
 |(i,D')::l,h=>by
  unfold q72 at h;rw[a0L]at h;by_cases e:i=id
  ·rw[dt e]at h;cases h;rw[e];exact xmc
  ·rw[df e]at h;exact xBa _ (q5e h)
def a3U (t:(List AV->CM)×(List AV->CM)×List (Nat×(List AV->CM))):Option Jmp->Option (List AV->CM)
 |none=>some t.1
 |some .ret=>some t.2.1
 |some (.exit id)=>q72 id t.2.2
def b0z (t:BT (En P B)) (f:Nat):Option (En P B):=(t.find f).bind fun e=>match Nat.beq e.f f with
 |true=>some e
 |false=>none
def b5X (t:BT (En P B)):Tb where
 fn f:=(b0z t f).bind fun e=>match j8X e.rs with
  |true=>none
  |false=>some e.t.fn
 gor k:=(b0z t (Nat.div k 4096)).bind fun e=>q72 k e.t.gs
 afr k j:=(b0z t (Nat.div k 4096)).bind fun e=>(q72 k e.t.ls).bind fun l=>a3U l j
def Tb.less (T:Tb) (l:List Nat):Tb:={T with fn:=fun f=>match l.contains f with
 |true=>none
 |false=>T.fn f}
def BT.all {α:Type} (p:α->Bool) (t:BT α):Bool:=BT.rec (motive:=fun _=>Bool) true (fun _ v _ _ l r=>p v&&(l&&r)) t
theorem BT.q6B {α:Type} {p:α->Bool} {q:Nat} {v:α}:∀{t:BT α},t.all p=true->t.find q=some v->p v=true
 | .leaf,_,h=>by simp[BT.find]at h
 | .node k w l r,ha,h=>by
  have hu:(BT.node k w l r).find q=Bool.rec (motive:=fun _=>Option α) (Bool.rec (motive:=fun _=>Option α) (r.find q) (l.find q) (Nat.ble q k)) (some w) (Nat.beq q k):=rfl
  have ha':(p w&&(l.all p&&r.all p))=true:=ha;rw[xAc,xAc]at ha';rw[hu]at h;cases e:Nat.beq q k with
  |true=>rw[e]at h;cases h;exact ha'.1
  |false=>
   rw[e]at h;cases e2:Nat.ble q k with
   |true=>rw[e2]at h;exact BT.q6B ha'.2.1 h
   |false=>rw[e2]at h;exact BT.q6B ha'.2.2 h
theorem q9g {t:BT (En P B)} {f:Nat} {e:En P B} (h:b0z t f=some e):t.find f=some e/\e.f=f:=by
 unfold b0z at h;obtain⟨e',h1,h2⟩:=be h;rw[a0L]at h2;by_cases hf:e'.f=f
 ·rw[dt hf]at h2;cases h2;exact⟨h1,hf⟩
 ·rw[df hf]at h2;cases h2
theorem b1v {t:BT (En P B)} (hc:t.all q93=true) {H:FuncId->Option (List AV->Mem->R)} (l:List Nat) (hH:∀f,((b5X t).less l).fn f≠none->H f=none) :
  ((b5X t).less l).Ok (EX P B H) (Mq (EX P B H)) (Nq (EX P B H)) where
 fn:=fun f D h=>by
  have h0:=hH f (by rw[h];exact fun h=>by cases h)
  have h1:(b5X t).fn f=some D:=by
   simp only[Tb.less]at h;split at h
   ·cases h
   ·exact h
  obtain⟨e,h2,h3⟩:=be h1;obtain⟨h4,rfl⟩:=q9g h2;cases hd:j8X e.rs with
  |true=>rw[hd]at h3;cases h3
  |false=>
   rw[hd]at h3;cases h3;refine((e.ok (BT.q6B (p:=q93) hc h4) H).fn h0 ?_).le;have hB:=e.hB;unfold q8s;show j8X (match B e.f with|some (rs,_,_)=>rs|none=>[])=false
   rw[hB];exact hd
 gor:=fun k D h=>by
  obtain⟨e,h2,h3⟩:=be (show (b0z t (Nat.div k 4096)).bind (fun e=>q72 k e.t.gs)=some D from h)
  obtain⟨h4,h5⟩:=q9g h2;exact((e.ok (BT.q6B (p:=q93) hc h4) H).gs _ (q5e h3)).le
 afr:=fun k j D h=>by
  obtain⟨e,h2,h3⟩:=be (show (b0z t (Nat.div k 4096)).bind (fun e=>(q72 k e.t.ls).bind fun l=>a3U l j)=some D from h)
  obtain⟨h4,h5⟩:=q9g h2;obtain⟨x,h6,h7⟩:=be h3;obtain⟨g1,g2,g3⟩:=(e.ok (BT.q6B (p:=q93) hc h4) H).ls _ (q5e h6);cases j with
  |none=>simp only[a3U,xoi]at h7;subst h7;exact g1.le
  |some j=>
   cases j with
   |ret=>simp only[a3U,xoi]at h7;subst h7;exact g2.le
   |exit id=>exact(g3 _ (q5e (show q72 id x.2.2=some D from h7))).le
end
end
section
section
variable {P:Program}
def b8m:List (Nat×List Oper)->Code->Code
 |[],c=>c
 |(id,ops)::rs,c=>.seq (.region id ⟨ops⟩ false) (b8m rs c)
end
structure Dfi where
 f:FuncId
 fn:Func
 regs:List (Nat×List Oper)
 idD:Nat
 o1:Oper
 o2:Oper
 c2:Call
 i:Tmp
 rest:AC
structure Dfi.Ok (D:Dfi) (E:Env):Prop where
 hf:E.P.funcs[D.f]? = some D.fn
 hb:D.fn.body=some (b8m D.regs (.seq (.region D.idD ⟨[D.o1,D.o2]⟩ false) D.rest.erase))
 name : D.fn.name ≠ "runtime.NumGoroutine"
 ok:D.rest.ok E.P=true
 g1:D.o1.guard=none
 g2:D.o2.guard=none
 d2:D.o2.dst=none
 op:D.o2.op=.defer D.c2
 cal:D.c2.callee=.value (.tmp D.i)
 arg:D.c2.args=#[]
end
section
structure q3x (m m0 m1 m2:Mem):Prop where
 q7y:m0.next=m.next
 sub:∀b,m0.get b=none\/m0.get b=m.get b
 z5i:m2.next=m1.next
 old:∀b,b<m.next->m0.get b=none->m2.get b=m.get b
 new:∀b,¬(b<m.next/\m0.get b=none)->m2.get b=m1.get b
section
variable {P:Program} {p q:Phi} {m m0 m1 m2:Mem} {w w':World}
theorem q3x.got (fr:q3x m m0 m1 m2) {b:Nat} {v:Blk} (h:m0.get b=some v):m.get b=some v:=by
 rcases fr.sub b with e|e
 ·rw[e]at h;cases h
 ·rw[<-e];exact h
theorem q3x.b7t (fr:q3x m m0 m1 m2) {b:Nat} (h:(m0.get b).isSome=true):(m.get b).isSome=true:=by
 obtain⟨v,hv⟩:=Option.isSome_iff_exists.1 h;rw[fr.got hv];rfl
theorem q3x.gone (fr:q3x m m0 m1 m2) {b:Nat} (h:m.get b=none):m0.get b=none:=by
 rcases fr.sub b with e|e
 ·exact e
 ·rw[e];exact h
theorem q3x.rel (fr:q3x m m0 m1 m2) (hm:MR P p m w):MR P p m0 w where
 has:=fun b v ci h1 h2=>hm.has b v ci (fr.got h1) h2
 inj:=fun b ci b2 ci2 h1 h2 h3 h4=>by
  rcases hm.inj b ci b2 ci2 (fr.b7t h1) h2 h3 h4 with e|⟨e1,e2⟩
  ·exact .inl e
  ·exact .inr ⟨by rw[fr.q7y];exact e1,fr.gone e2⟩
 bnd:=hm.bnd
 q23:=hm.q23
theorem q3x.apart (fr:q3x m m0 m1 m2) (hm:MR P p m w) {b:Nat} {ci:CI} (hb:(m.get b).isSome=true) (h0:m0.get b=none) (hp:p b=some ci):∀b0 ci0,(m0.get b0).isSome=true->p b0=some ci0->ci0.c≠ci.c:=by
 intro b0 ci0 h1 h2 e;rcases hm.inj b ci b0 ci0 hb hp h2 e.symm with rfl|⟨_,e2⟩
 ·rw[h0]at h1;cases h1
 ·rw[fr.gone e2]at h1;cases h1
theorem q3x.key (fr:q3x m m0 m1 m2) (hm:MR P p m w) (s:Sim P p m0 w q m1 w') {b b2:Nat} {ci ci2:CI} (hb:b<m.next) (h0:m0.get b=none) (h1:(m.get b).isSome=true) (h2:q b=some ci) (h3:q b2=some ci2) (h4:ci.c=ci2.c) :
  b=b2\/(b2<m2.next/\m2.get b2=none):=by
 have hp:p b=some ci:=by rw[<-s.out b (by rw[fr.q7y];omega)];exact h2
 have hn:=s.next
 rw[fr.q7y]at hn;have old:∀{b2 ci2},p b2=some ci2->ci.c=ci2.c->b=b2\/(b2<m2.next/\m2.get b2=none):=fun {b2 ci2} g1 g2=>by
  rcases hm.inj b ci b2 ci2 h1 hp g1 g2 with e|⟨e1,e2⟩
  ·exact .inl e
  ·exact .inr ⟨by rw[fr.z5i];omega,by rw[fr.old b2 e1 (fr.gone e2)];exact e2⟩
 by_cases hx:m.next<=b2/\b2<m1.next
 ·rcases s.fresh b2 ci2 (by rw[fr.q7y];exact hx.1) hx.2 h3 with e|⟨b0,ci0,g1,g2,g3⟩
  ·have:=hm.bnd b ci hp;omega
  ·exact absurd (g3.trans h4.symm) (fr.apart hm h1 h0 hp b0 ci0 g1 g2)
 ·exact old (by rw[<-s.out b2 (by rw[fr.q7y];exact hx)];exact h3) h4
theorem q3x.sim (fr:q3x m m0 m1 m2) (hm:MR P p m w) (s:Sim P p m0 w q m1 w'):Sim P p m w q m2 w':=by
 have hn:=s.next
 rw[fr.q7y]at hn;have keep:∀{b ci},(m.get b).isSome=true->m0.get b=none->p b=some ci->w'.heap[ci.c]? = w.heap[ci.c]?:=fun {b ci} h1 h0 hp=>
  s.q3d ci.c (hm.bnd b ci hp) (fr.apart hm h1 h0 hp)
 exact {
  le:=s.le
  out:=fun b hb=>s.out b (by rw[fr.q7y,<-fr.z5i];exact hb)
  next:=by rw[fr.z5i];exact hn
  rel:={
   has:=fun b v ci h1 h2=>by
    by_cases hb:b<m.next/\m0.get b=none
    ·rw[fr.old b hb.1 hb.2]at h1;have hp:p b=some ci:=by rw[<-s.out b (by rw[fr.q7y];omega)];exact h2
     obtain⟨o,h3,h4⟩:=hm.has b v ci h1 hp;exact⟨o,by rw[keep (by rw[h1];rfl) hb.2 hp];exact h3,h4.mono s.le⟩
    ·rw[fr.new b hb]at h1;exact s.rel.has b v ci h1 h2
   inj:=fun b ci b2 ci2 h1 h2 h3 h4=>by
    by_cases hb:b<m.next/\m0.get b=none
    ·rw[fr.old b hb.1 hb.2]at h1;exact fr.key hm s hb.1 hb.2 h1 h2 h3 h4
    ·rw[fr.new b hb]at h1;rcases s.rel.inj b ci b2 ci2 h1 h2 h3 h4 with e|⟨e1,e2⟩
     ·exact .inl e
     ·by_cases hb2:b2<m.next/\m0.get b2=none
      ·cases hg:m.get b2 with
       |none=>exact .inr ⟨by rw[fr.z5i];exact e1,by rw[fr.old b2 hb2.1 hb2.2];exact hg⟩
       |some v=>
        rcases fr.key hm s hb2.1 hb2.2 (by rw[hg];rfl) h3 h2 h4.symm with e|⟨_,e⟩
        ·exact .inl e.symm
        ·rw[fr.new b hb]at e;rw[e]at h1;cases h1
      ·exact .inr ⟨by rw[fr.z5i];exact e1,by rw[fr.new b2 hb2];exact e2⟩
   bnd:=s.rel.bnd
   q23:=s.rel.q23}
  q4d:=fun b h1 h2=>by
   by_cases hb:b<m.next/\m0.get b=none
   ·exact fr.old b h1 hb.2
   ·rw[fr.new b hb,s.q4d b (by rw[fr.q7y];exact h1) h2];rcases fr.sub b with e|e
    ·exact absurd ⟨h1,e⟩ hb
    ·exact e
  dead:=fun b h1 h2=>by rw[fr.old b h1 (fr.gone h2)];exact h2
  q3d:=fun c hc hk=>s.q3d c hc fun b ci h1 h2=>hk b ci (fr.b7t h1) h2
  fresh:=fun b ci h1 h2 h3=>by
   rcases s.fresh b ci (by rw[fr.q7y];exact h1) (by rw[<-fr.z5i];exact h2) h3 with e|⟨b0,ci0,g1,g2,g3⟩
   ·exact .inl e
   ·exact .inr ⟨b0,ci0,fr.b7t g1,g2,g3⟩
  ro:=fun b cs ci h1 h2=>by
   by_cases hb:b<m.next/\m0.get b=none
   ·exact⟨by rw[fr.old b hb.1 hb.2];exact h1,keep (by rw[h1];rfl) hb.2 h2⟩
   ·have h0:m0.get b=some (.cells cs true):=by
     rcases fr.sub b with e|e
     ·exact absurd ⟨Mem.q0u h1,e⟩ hb
     ·rw[e];exact h1
    rw[fr.new b hb];exact s.ro b cs ci h0 h2
  size:=s.size
  os:=s.os
  output:=s.output
  tape:=s.tape}
theorem z2O.frame {f:FuncId} {args:List AV} {r:AV} (h:z2O P (.fn f) args m0 r m1) (fr:q3x m m0 m1 m2):z2O P (.fn f) args m r m2:=by
 refine⟨by rw[fr.z5i,<-fr.q7y];exact h.1,fun p w cargs hm hG hf hv=>?_⟩
 rcases h.2 p w cargs (fr.rel hm) (by rw[fr.q7y];exact hG) (by rw[fr.q7y,<-fr.z5i];exact hf) hv with ⟨fn,h1,h2,h3,h4⟩|⟨cv,w',q,h1,h2,h3⟩
 ·refine .inl ⟨fn,h1,h2,h3,h4.mono ?_⟩;rintro e w' ⟨cv,q,rfl,h5,h6⟩
  exact⟨cv,q,rfl,h5,fr.sim hm h6⟩
 ·exact .inr ⟨cv,w',q,h1,h2,fr.sim hm h3⟩
end
end
section
def q3J (f:FuncId) (h:List AV->Mem->R) (H:FuncId->Option (List AV->Mem->R)):FuncId->Option (List AV->Mem->R):=fun x=>match Nat.beq x f with
 |true=>some h
 |false=>H x
def q8K (f:FuncId) (b:List ResultVar×Nat×AC) (B:FuncId->Option (List ResultVar×Nat×AC)):FuncId->Option (List ResultVar×Nat×AC):=fun x=>match Nat.beq x f with
 |true=>some b
 |false=>B x
theorem q2N (f:FuncId) (h:List AV->Mem->R) (H:FuncId->Option (List AV->Mem->R)):q3J f h H f=some h:=by unfold q3J;rw[Nat.beq_refl]
theorem q2l {f x:FuncId} (hx:x≠f) (h:List AV->Mem->R) (H:FuncId->Option (List AV->Mem->R)):q3J f h H x=H x:=by unfold q3J;rw[a0L,df hx]
theorem z6z (f:FuncId) (b:List ResultVar×Nat×AC) (B:FuncId->Option (List ResultVar×Nat×AC)):q8K f b B f=some b:=by unfold q8K;rw[Nat.beq_refl]
theorem z3k {f x:FuncId} (hx:x≠f) (b:List ResultVar×Nat×AC) (B:FuncId->Option (List ResultVar×Nat×AC)):q8K f b B x=B x:=by unfold q8K;rw[a0L,df hx]
theorem q07.q8K {E:Env} (hE:q07 E) (f:FuncId) (b:List ResultVar×Nat×AC) {h:List AV->Mem->R} (hh:∀args m r m',h args m=some (r,m')->z2O E.P (.fn f) args m r m'):q07 ⟨E.P,Abs.q8K f b E.B,q3J f h E.H⟩ where
 mixed:=hE.mixed
 body:=fun x hx rs nt c hB=>by
  by_cases e:x=f
  ·subst e;have:=q2N x h E.H;rw[show q3J x h E.H x=none from hx]at this;cases this
  ·exact hE.body x ((q2l e h E.H).symm.trans hx) rs nt c ((z3k e b E.B).symm.trans hB)
 hook:=fun x g hx=>by
  by_cases e:x=f
  ·subst e;have:=q2N x h E.H;rw[show q3J x h E.H x=some g from hx]at this;cases this;exact hh
  ·exact hE.hook x g ((q2l e h E.H).symm.trans hx)
theorem q07.q3J {E:Env} (hE:q07 E) (f:FuncId) (hf:E.H f≠none) {h:List AV->Mem->R} (hh:∀args m r m',h args m=some (r,m')->z2O E.P (.fn f) args m r m'):q07 {E with H:=Abs.q3J f h E.H} where
 mixed:=hE.mixed
 body:=fun x hx rs nt c hB=>by
  by_cases e:x=f
  ·subst e;have:=q2N x h E.H;rw[show Abs.q3J x h E.H x=none from hx]at this;cases this
  ·exact hE.body x ((q2l e h E.H).symm.trans hx) rs nt c hB
 hook:=fun x g hx=>by
  by_cases e:x=f
  ·subst e;have:=q2N x h E.H;rw[show Abs.q3J x h E.H x=some g from hx]at this;cases this;exact hh
  ·exact hE.hook x g ((q2l e h E.H).symm.trans hx)
abbrev j4g:List ResultVar:=[.cell 0 0,.cell 0 0,.cell 0 0]
structure TrD (P:Program) (D:Dfi) where
 x:Ops->Ent
 eq:∀O,x O=b5z O P D.f D.fn.ntmps j4g 0 (index D.rest 0 0)
def TrD.en {P:Program} {D:Dfi} (t:TrD P D) (B:FuncId->Option (List ResultVar×Nat×AC)):En P (q8K D.f (j4g,D.fn.ntmps,D.rest) B):=⟨D.f,0,j4g,D.fn.ntmps,D.rest,z6z _ _ _,t.x,t.eq⟩
end
end Go.Abs
namespace Go.Proofs.YtkbhcgifnnhbaaaGreatDoor.U
open Go Go.Abs Go.Proofs.YtkbhcgifnnhbaaaGreatDoor
set_option maxRecDepth 20000
set_option maxHeartbeats 4000000
noncomputable section
def t5:Tr TP 5 Tryz.f5 b4w:=⟨_,fun O=>by conv=>rhs;reduce⟩
def t14:Tr TP 14 Tryz.f14 a5N:=⟨_,fun O=>by conv=>rhs;reduce⟩
def t15:Tr TP 15 Tryz.f15 a5O:=⟨_,fun O=>by conv=>rhs;reduce⟩
def t16:Tr TP 16 Tryz.f16 a5P:=⟨_,fun O=>by conv=>rhs;reduce⟩
def t17:Tr TP 17 Tryz.f17 a5Q:=⟨_,fun O=>by conv=>rhs;reduce⟩
def t18:Tr TP 18 Tryz.f18 a5R:=⟨_,fun O=>by conv=>rhs;reduce⟩
def t20:Tr TP 20 Tryz.f20 a5S:=⟨_,fun O=>by conv=>rhs;reduce⟩
def t21:Tr TP 21 Tryz.f21 a5T:=⟨_,fun O=>by conv=>rhs;reduce⟩
def t22:Tr TP 22 Tryz.f22 a5U:=⟨_,fun O=>by conv=>rhs;reduce⟩
def t24:Tr TP 24 Tryz.f24 a5V:=⟨_,fun O=>by conv=>rhs;reduce⟩
def t34:Tr TP 34 Tryz.f34 a5W:=⟨_,fun O=>by conv=>rhs;reduce⟩
def t65:Tr TP 65 Tryz.f65 a5X:=⟨_,fun O=>by conv=>rhs;reduce⟩
def t66:Tr TP 66 Tryz.f66 a5Y:=⟨_,fun O=>by conv=>rhs;reduce⟩
def t67:Tr TP 67 Tryz.f67 a5Z:=⟨_,fun O=>by conv=>rhs;reduce⟩
def t68:Tr TP 68 Tryz.f68 a6a:=⟨_,fun O=>by conv=>rhs;reduce⟩
def t69:Tr TP 69 Tryz.f69 a6b:=⟨_,fun O=>by conv=>rhs;reduce⟩
def t70:Tr TP 70 Tryz.f70 a6c:=⟨_,fun O=>by conv=>rhs;reduce⟩
def t71:Tr TP 71 Tryz.f71 a6d:=⟨_,fun O=>by conv=>rhs;reduce⟩
def t72:Tr TP 72 Tryz.f72 a6e:=⟨_,fun O=>by conv=>rhs;reduce⟩
def t73:Tr TP 73 Tryz.f73 a6f:=⟨_,fun O=>by conv=>rhs;reduce⟩
def t74:Tr TP 74 Tryz.f74 a6g:=⟨_,fun O=>by conv=>rhs;reduce⟩
def t75:Tr TP 75 Tryz.f75 a6h:=⟨_,fun O=>by conv=>rhs;reduce⟩
def t76:Tr TP 76 Tryz.f76 a6i:=⟨_,fun O=>by conv=>rhs;reduce⟩
def t77:Tr TP 77 Tryz.f77 a6j:=⟨_,fun O=>by conv=>rhs;reduce⟩
def t78:Tr TP 78 Tryz.f78 a6k:=⟨_,fun O=>by conv=>rhs;reduce⟩
def t79:Tr TP 79 Tryz.f79 a6l:=⟨_,fun O=>by conv=>rhs;reduce⟩
def t80:Tr TP 80 Tryz.f80 a6m:=⟨_,fun O=>by conv=>rhs;reduce⟩
def t81:Tr TP 81 Tryz.f81 a6n:=⟨_,fun O=>by conv=>rhs;reduce⟩
def t82:Tr TP 82 Tryz.f82 a6o:=⟨_,fun O=>by conv=>rhs;reduce⟩
def t83:Tr TP 83 Tryz.f83 a6p:=⟨_,fun O=>by conv=>rhs;reduce⟩
def t84:Tr TP 84 Tryz.f84 a6q:=⟨_,fun O=>by conv=>rhs;reduce⟩
def t85:Tr TP 85 Tryz.f85 a6r:=⟨_,fun O=>by conv=>rhs;reduce⟩
def t86:Tr TP 86 Tryz.f86 a6s:=⟨_,fun O=>by conv=>rhs;reduce⟩
def t87:Tr TP 87 Tryz.f87 a6t:=⟨_,fun O=>by conv=>rhs;reduce⟩
def t88:Tr TP 88 Tryz.f88 a6u:=⟨_,fun O=>by conv=>rhs;reduce⟩
def t89:Tr TP 89 Tryz.f89 a6v:=⟨_,fun O=>by conv=>rhs;reduce⟩
def t90:Tr TP 90 Tryz.f90 a6w:=⟨_,fun O=>by conv=>rhs;reduce⟩
def t91:Tr TP 91 Tryz.f91 a6x:=⟨_,fun O=>by conv=>rhs;reduce⟩
def t92:Tr TP 92 Tryz.f92 a6y:=⟨_,fun O=>by conv=>rhs;reduce⟩
def t93:Tr TP 93 Tryz.f93 a6z:=⟨_,fun O=>by conv=>rhs;reduce⟩
def b5C:Tr TP 101 Tryz.f101 j6Y:=⟨_,fun O=>by conv=>rhs;reduce⟩
def b5D:Tr TP 102 Tryz.f102 j6Z:=⟨_,fun O=>by conv=>rhs;reduce⟩
def b5E:Tr TP 103 Tryz.f103 j60:=⟨_,fun O=>by conv=>rhs;reduce⟩
def b1W:Tr TP 104 Tryz.f104 j61:=⟨_,fun O=>by conv=>rhs;reduce⟩
def b1X:Tr TP 126 Tryz.f126 j62:=⟨_,fun O=>by conv=>rhs;reduce⟩
def t127:Tr TP 127 Tryz.f127 j63:=⟨_,fun O=>by conv=>rhs;reduce⟩
def b5F:Tr TP 128 Tryz.f128 j64:=⟨_,fun O=>by conv=>rhs;reduce⟩
def t141:Tr TP 141 Tryz.f141 j65:=⟨_,fun O=>by conv=>rhs;reduce⟩
def j1L:Tr TP 142 Tryz.f142 j66:=⟨_,fun O=>by conv=>rhs;reduce⟩
def t143:Tr TP 143 Tryz.f143 j67:=⟨_,fun O=>by conv=>rhs;reduce⟩
def a6L:Tr TP 144 Tryz.f144 j68:=⟨_,fun O=>by conv=>rhs;reduce⟩
def t145:Tr TP 145 Tryz.f145 j69:=⟨_,fun O=>by conv=>rhs;reduce⟩
def t146:Tr TP 146 Tryz.f146 j7a:=⟨_,fun O=>by conv=>rhs;reduce⟩
def b1Y:Tr TP 147 Tryz.f147 j7b:=⟨_,fun O=>by conv=>rhs;reduce⟩
def t148:Tr TP 148 Tryz.f148 j7c:=⟨_,fun O=>by conv=>rhs;reduce⟩
def a6M:Tr TP 149 Tryz.f149 j7d:=⟨_,fun O=>by conv=>rhs;reduce⟩
def j1M:Tr TP 150 Tryz.f150 j7e:=⟨_,fun O=>by conv=>rhs;reduce⟩
def a0O:Tr TP 151 Tryz.f151 j7f:=⟨_,fun O=>by conv=>rhs;reduce⟩
def t152:Tr TP 152 Tryz.f152 j7g:=⟨_,fun O=>by conv=>rhs;reduce⟩
def j0j:Tr TP 153 Tryz.f153 j7h:=⟨_,fun O=>by conv=>rhs;reduce⟩
def t154:Tr TP 154 Tryz.f154 j7i:=⟨_,fun O=>by conv=>rhs;reduce⟩
def q9Y:Tr TP 155 Tryz.f155 j7j:=⟨_,fun O=>by conv=>rhs;reduce⟩
def t156:Tr TP 156 Tryz.f156 j7k:=⟨_,fun O=>by conv=>rhs;reduce⟩
def t157:Tr TP 157 Tryz.f157 j7l:=⟨_,fun O=>by conv=>rhs;reduce⟩
def b5G:Tr TP 158 Tryz.f158 j7m:=⟨_,fun O=>by conv=>rhs;reduce⟩
def t162:Tr TP 162 Tryz.f162 j7n:=⟨_,fun O=>by conv=>rhs;reduce⟩
def b5H:Tr TP 163 Tryz.f163 j7o:=⟨_,fun O=>by conv=>rhs;reduce⟩
def t164:Tr TP 164 Tryz.f164 j7p:=⟨_,fun O=>by conv=>rhs;reduce⟩
def b1Z:Tr TP 165 Tryz.f165 j7q:=⟨_,fun O=>by conv=>rhs;reduce⟩
def b5I:Tr TP 166 Tryz.f166 j7r:=⟨_,fun O=>by conv=>rhs;reduce⟩
def t167:Tr TP 167 Tryz.f167 j7s:=⟨_,fun O=>by conv=>rhs;reduce⟩
def t168:Tr TP 168 Tryz.f168 j7t:=⟨_,fun O=>by conv=>rhs;reduce⟩
def b5J:Tr TP 169 Tryz.f169 j7u:=⟨_,fun O=>by conv=>rhs;reduce⟩
def b5K:Tr TP 170 Tryz.f170 j7v:=⟨_,fun O=>by conv=>rhs;reduce⟩
def t171:Tr TP 171 Tryz.f171 j7w:=⟨_,fun O=>by conv=>rhs;reduce⟩
def b2a:Tr TP 172 Tryz.f172 j7x:=⟨_,fun O=>by conv=>rhs;reduce⟩
def t213:Tr TP 213 Tryz.f213 j7y:=⟨_,fun O=>by conv=>rhs;reduce⟩
def j0k:Tr TP 214 Tryz.f214 j7z:=⟨_,fun O=>by conv=>rhs;reduce⟩
def j1N:Tr TP 215 Tryz.f215 j7A:=⟨_,fun O=>by conv=>rhs;reduce⟩
def b8Z:Tr TP 220 Tryz.f220 j7B:=⟨_,fun O=>by conv=>rhs;reduce⟩
def t226:Tr TP 226 Tryz.f226 j7C:=⟨_,fun O=>by conv=>rhs;reduce⟩
def t227:Tr TP 227 Tryz.f227 j7D:=⟨_,fun O=>by conv=>rhs;reduce⟩
def t228:Tr TP 228 Tryz.f228 j7E:=⟨_,fun O=>by conv=>rhs;reduce⟩
def t229:Tr TP 229 Tryz.f229 j7F:=⟨_,fun O=>by conv=>rhs;reduce⟩
def b2b:Tr TP 230 Tryz.f230 j7G:=⟨_,fun O=>by conv=>rhs;reduce⟩
def j1O:Tr TP 231 Tryz.f231 j7H:=⟨_,fun O=>by conv=>rhs;reduce⟩
def t232:Tr TP 232 Tryz.f232 j7I:=⟨_,fun O=>by conv=>rhs;reduce⟩
def t233:Tr TP 233 Tryz.f233 j7J:=⟨_,fun O=>by conv=>rhs;reduce⟩
def t234:Tr TP 234 Tryz.f234 j7K:=⟨_,fun O=>by conv=>rhs;reduce⟩
def b5L:Tr TP 235 Tryz.f235 j7L:=⟨_,fun O=>by conv=>rhs;reduce⟩
def t236:Tr TP 236 Tryz.f236 j7M:=⟨_,fun O=>by conv=>rhs;reduce⟩
def a6N:Tr TP 237 Tryz.f237 j7N:=⟨_,fun O=>by conv=>rhs;reduce⟩
def b5M:Tr TP 238 Tryz.f238 j7O:=⟨_,fun O=>by conv=>rhs;reduce⟩
def b5N:Tr TP 239 Tryz.f239 j7P:=⟨_,fun O=>by conv=>rhs;reduce⟩
def z6n:Tr TP 240 Tryz.f240 j7Q:=⟨_,fun O=>by conv=>rhs;reduce⟩
def j1P:Tr TP 241 Tryz.f241 j7R:=⟨_,fun O=>by conv=>rhs;reduce⟩
def b2c:Tr TP 242 Tryz.f242 j7S:=⟨_,fun O=>by conv=>rhs;reduce⟩
def b80:Tr TP 250 Tryz.f250 j7T:=⟨_,fun O=>by conv=>rhs;reduce⟩
def b81:Tr TP 251 Tryz.f251 j7U:=⟨_,fun O=>by conv=>rhs;reduce⟩
end
noncomputable section
def b82:Tr TP 252 Tryz.f252 j7V:=⟨_,fun O=>by conv=>rhs;reduce⟩
def b5O:Tr TP 253 Tryz.f253 j7W:=⟨_,fun O=>by conv=>rhs;reduce⟩
def b83:Tr TP 257 Tryz.f257 j7X:=⟨_,fun O=>by conv=>rhs;reduce⟩
def b84:Tr TP 258 Tryz.f258 j7Y:=⟨_,fun O=>by conv=>rhs;reduce⟩
def b85:Tr TP 280 Tryz.f280 j7Z:=⟨_,fun O=>by conv=>rhs;reduce⟩
def b86:Tr TP 281 Tryz.f281 j70:=⟨_,fun O=>by conv=>rhs;reduce⟩
def b87:Tr TP 282 Tryz.f282 j71:=⟨_,fun O=>by conv=>rhs;reduce⟩
def b88:Tr TP 283 Tryz.f283 j72:=⟨_,fun O=>by conv=>rhs;reduce⟩
def b89:Tr TP 284 Tryz.f284 j73:=⟨_,fun O=>by conv=>rhs;reduce⟩
def z2M:Tr TP 285 Tryz.f285 j74:=⟨_,fun O=>by conv=>rhs;reduce⟩
def b2d:Tr TP 286 Tryz.f286 j75:=⟨_,fun O=>by conv=>rhs;reduce⟩
def a6O:Tr TP 287 Tryz.f287 j76:=⟨_,fun O=>by conv=>rhs;reduce⟩
def b5P:Tr TP 288 Tryz.f288 j77:=⟨_,fun O=>by conv=>rhs;reduce⟩
def b5Q:Tr TP 289 Tryz.f289 j78:=⟨_,fun O=>by conv=>rhs;reduce⟩
def b2e:Tr TP 290 Tryz.f290 j79:=⟨_,fun O=>by conv=>rhs;reduce⟩
def b5R:Tr TP 291 Tryz.f291 j8a:=⟨_,fun O=>by conv=>rhs;reduce⟩
def b9a:Tr TP 292 Tryz.f292 j8b:=⟨_,fun O=>by conv=>rhs;reduce⟩
def b9b:Tr TP 293 Tryz.f293 j8c:=⟨_,fun O=>by conv=>rhs;reduce⟩
def b9c:Tr TP 296 Tryz.f296 j8d:=⟨_,fun O=>by conv=>rhs;reduce⟩
def b9d:Tr TP 298 Tryz.f298 j8e:=⟨_,fun O=>by conv=>rhs;reduce⟩
def b2f:Tr TP 301 Tryz.f301 j8f:=⟨_,fun O=>by conv=>rhs;reduce⟩
def b9e:Tr TP 303 Tryz.f303 j8g:=⟨_,fun O=>by conv=>rhs;reduce⟩
def b9f:Tr TP 304 Tryz.f304 j8h:=⟨_,fun O=>by conv=>rhs;reduce⟩
def b9g:Tr TP 306 Tryz.f306 j8i:=⟨_,fun O=>by conv=>rhs;reduce⟩
def b9h:Tr TP 308 Tryz.f308 j8j:=⟨_,fun O=>by conv=>rhs;reduce⟩
def b9i:Tr TP 310 Tryz.f310 j8k:=⟨_,fun O=>by conv=>rhs;reduce⟩
def b9j:Tr TP 312 Tryz.f312 j8l:=⟨_,fun O=>by conv=>rhs;reduce⟩
def j1Q:Tr TP 313 Tryz.f313 j8m:=⟨_,fun O=>by conv=>rhs;reduce⟩
def j1R:Tr TP 314 Tryz.f314 j8n:=⟨_,fun O=>by conv=>rhs;reduce⟩
def z2N:Tr TP 315 Tryz.f315 j8o:=⟨_,fun O=>by conv=>rhs;reduce⟩
def a6P:Tr TP 316 Tryz.f316 j8p:=⟨_,fun O=>by conv=>rhs;reduce⟩
def b9k:Tr TP 318 Tryz.f318 j8q:=⟨_,fun O=>by conv=>rhs;reduce⟩
def b9l:Tr TP 319 Tryz.f319 j8r:=⟨_,fun O=>by conv=>rhs;reduce⟩
def b9m:Tr TP 320 Tryz.f320 j8s:=⟨_,fun O=>by conv=>rhs;reduce⟩
def b5S:Tr TP 323 Tryz.f323 j8t:=⟨_,fun O=>by conv=>rhs;reduce⟩
def b9n:Tr TP 325 Tryz.f325 j8u:=⟨_,fun O=>by conv=>rhs;reduce⟩
def b9o:Tr TP 326 Tryz.f326 j8v:=⟨_,fun O=>by conv=>rhs;reduce⟩
def b9p:Tr TP 327 Tryz.f327 j8w:=⟨_,fun O=>by conv=>rhs;reduce⟩
def b9q:Tr TP 328 Tryz.f328 j8x:=⟨_,fun O=>by conv=>rhs;reduce⟩
def b9r:Tr TP 329 Tryz.f329 j8y:=⟨_,fun O=>by conv=>rhs;reduce⟩
def b2g:Tr TP 330 Tryz.f330 j8z:=⟨_,fun O=>by conv=>rhs;reduce⟩
def b9s:Tr TP 331 Tryz.f331 j8A:=⟨_,fun O=>by conv=>rhs;reduce⟩
def b9t:Tr TP 332 Tryz.f332 j8B:=⟨_,fun O=>by conv=>rhs;reduce⟩
def b5T:Tr TP 334 Tryz.f334 j8C:=⟨_,fun O=>by conv=>rhs;reduce⟩
def b2h:Tr TP 336 Tryz.f336 j8D:=⟨_,fun O=>by conv=>rhs;reduce⟩
def j0l:Tr TP 337 Tryz.f337 j8E:=⟨_,fun O=>by conv=>rhs;reduce⟩
def b9u:Tr TP 338 Tryz.f338 j8F:=⟨_,fun O=>by conv=>rhs;reduce⟩
def b9v:Tr TP 339 Tryz.f339 j8G:=⟨_,fun O=>by conv=>rhs;reduce⟩
def b9w:Tr TP 340 Tryz.f340 j8H:=⟨_,fun O=>by conv=>rhs;reduce⟩
def b9x:Tr TP 341 Tryz.f341 j8I:=⟨_,fun O=>by conv=>rhs;reduce⟩
def a0P:Tr TP 342 Tryz.f342 j8J:=⟨_,fun O=>by conv=>rhs;reduce⟩
def q9Z:Tr TP 343 Tryz.f343 j8K:=⟨_,fun O=>by conv=>rhs;reduce⟩
def b2i:Tr TP 344 Tryz.f344 j8L:=⟨_,fun O=>by conv=>rhs;reduce⟩
def b5U:Tr TP 345 Tryz.f345 j8M:=⟨_,fun O=>by conv=>rhs;reduce⟩
def b5V:Tr TP 346 Tryz.f346 j8N:=⟨_,fun O=>by conv=>rhs;reduce⟩
def a0Q:Tr TP 347 Tryz.f347 j8O:=⟨_,fun O=>by conv=>rhs;reduce⟩
def b5W:Tr TP 348 Tryz.f348 j8P:=⟨_,fun O=>by conv=>rhs;reduce⟩
def a0R:Tr TP 349 Tryz.f349 j8Q:=⟨_,fun O=>by conv=>rhs;reduce⟩
end
end Go.Proofs.YtkbhcgifnnhbaaaGreatDoor.U
