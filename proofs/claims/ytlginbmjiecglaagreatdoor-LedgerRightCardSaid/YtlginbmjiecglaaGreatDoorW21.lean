/- Texts of one claim, put together. -/
import Derived.Test.YtlginbmjiecglaaGreatDoorW20
namespace Go.Proofs.YtlginbmjiecglaaGreatDoor
section
set_option maxRecDepth 4000
open Go Go.Abs
theorem j99 (p q:q0r):q0J Tryz.prog .neq 56 (.agg p.cells) (.agg q.cells)=some (.bool (!decide (p=q))):=by
 obtain⟨a,b,⟨c,d⟩⟩:=p;obtain⟨a',b',⟨c',d'⟩⟩:=q;have h:eqA Tryz.prog 50 56 (.agg [.str a,.int .i64 b,.int .i64 c,.int .u64 d]) (.agg [.str a',.int .i64 b',.int .i64 c',.int .u64 d'])=(match (a==a') with|true=>(match (b==b') with|true=>(match (match (c==c') with|true=>(match (d==d') with|true=>some true|false=>some false)|false=>some false) with|some true=>some true|some false=>some false|none=>none)|false=>some false)|false=>some false):=by kernel_rfl
 have h2:q0J Tryz.prog .neq 56 (.agg [.str a,.int .i64 b,.int .i64 c,.int .u64 d]) (.agg [.str a',.int .i64 b',.int .i64 c',.int .u64 d'])=(match eqA Tryz.prog 50 56 (.agg [.str a,.int .i64 b,.int .i64 c,.int .u64 d]) (.agg [.str a',.int .i64 b',.int .i64 c',.int .u64 d']) with|some b=>some (.bool (!b))|none=>none):=by kernel_rfl
 have k:decide (q0r.mk a b ⟨c,d⟩=q0r.mk a' b' ⟨c',d'⟩)=((a==a')&&((b==b')&&((c==c')&&(d==d')))):=by
  rw[q5C,Bool.eq_iff_iff];simp
 simp only[q0r.cells];rw[h2,h,k];cases (a==a')<;>cases (b==b')<;>cases (c==c')<;>cases (d==d')<;>rfl
theorem j6K (p q:q1k):q0J Tryz.prog .neq 54 (.agg p.cells) (.agg q.cells)=some (.bool (!decide (p=q))):=by
 obtain⟨a,b,⟨c,d⟩⟩:=p;obtain⟨a',b',⟨c',d'⟩⟩:=q;have h:eqA Tryz.prog 50 54 (.agg [.int .u64 a,.str b,.int .i64 c,.int .u64 d]) (.agg [.int .u64 a',.str b',.int .i64 c',.int .u64 d'])=(match (a==a') with|true=>(match (b==b') with|true=>(match (match (c==c') with|true=>(match (d==d') with|true=>some true|false=>some false)|false=>some false) with|some true=>some true|some false=>some false|none=>none)|false=>some false)|false=>some false):=by kernel_rfl
 have h2:q0J Tryz.prog .neq 54 (.agg [.int .u64 a,.str b,.int .i64 c,.int .u64 d]) (.agg [.int .u64 a',.str b',.int .i64 c',.int .u64 d'])=(match eqA Tryz.prog 50 54 (.agg [.int .u64 a,.str b,.int .i64 c,.int .u64 d]) (.agg [.int .u64 a',.str b',.int .i64 c',.int .u64 d']) with|some b=>some (.bool (!b))|none=>none):=by kernel_rfl
 have k:decide (q1k.mk a b ⟨c,d⟩=q1k.mk a' b' ⟨c',d'⟩)=((a==a')&&((b==b')&&((c==c')&&(d==d')))):=by
  rw[q5C,Bool.eq_iff_iff];simp
 simp only[q1k.cells];rw[h2,h,k];cases (a==a')<;>cases (b==b')<;>cases (c==c')<;>cases (d==d')<;>rfl
theorem j96 (p q:q0D):q0J Tryz.prog .neq 74 (.agg p.cells) (.agg q.cells)=some (.bool (!decide (p=q))):=by
 obtain⟨x,y,⟨a,b⟩,s,⟨c,d⟩,⟨e,f⟩⟩:=p;obtain⟨x',y',⟨a',b'⟩,s',⟨c',d'⟩,⟨e',f'⟩⟩:=q;have h:eqA Tryz.prog 50 74 (.agg [.str x,.str y,.int .i64 a,.int .u64 b,.int .i64 s,.int .i64 c,.int .u64 d,.int .i64 e,.int .u64 f]) (.agg [.str x',.str y',.int .i64 a',.int .u64 b',.int .i64 s',.int .i64 c',.int .u64 d',.int .i64 e',.int .u64 f']) =
  (match (x==x') with|true=>(match (y==y') with|true=>(match (match (match (a==a') with|true=>(match (b==b') with|true=>some true|false=>some false)|false=>some false) with|some true=>(match (s==s') with|true=>some true|false=>some false)|some false=>some false|none=>none) with|some true=>(match (match (c==c') with|true=>(match (d==d') with|true=>some true|false=>some false)|false=>some false) with|some true=>(match (match (e==e') with|true=>(match (f==f') with|true=>some true|false=>some false)|false=>some false) with|some true=>some true|some false=>some false|none=>none)|some false=>some false|none=>none)|some false=>some false|none=>none)|false=>some false)|false=>some false):=by kernel_rfl
 have h2:q0J Tryz.prog .neq 74 (.agg [.str x,.str y,.int .i64 a,.int .u64 b,.int .i64 s,.int .i64 c,.int .u64 d,.int .i64 e,.int .u64 f]) (.agg [.str x',.str y',.int .i64 a',.int .u64 b',.int .i64 s',.int .i64 c',.int .u64 d',.int .i64 e',.int .u64 f'])=(match eqA Tryz.prog 50 74 (.agg [.str x,.str y,.int .i64 a,.int .u64 b,.int .i64 s,.int .i64 c,.int .u64 d,.int .i64 e,.int .u64 f]) (.agg [.str x',.str y',.int .i64 a',.int .u64 b',.int .i64 s',.int .i64 c',.int .u64 d',.int .i64 e',.int .u64 f']) with|some b=>some (.bool (!b))|none=>none):=by kernel_rfl
 have k:decide (q0D.mk x y ⟨a,b⟩ s ⟨c,d⟩ ⟨e,f⟩=q0D.mk x' y' ⟨a',b'⟩ s' ⟨c',d'⟩ ⟨e',f'⟩)=((x==x')&&((y==y')&&(((a==a')&&(b==b'))&&((s==s')&&(((c==c')&&(d==d'))&&((e==e')&&(f==f'))))))):=by
  rw[q5C,q5C,Bool.eq_iff_iff];simp[and_assoc]
 simp only[q0D.cells];rw[h2,h,k];cases (x==x')
 ·rfl
 cases (y==y')
 ·rfl
 cases (a==a')
 ·rfl
 cases (b==b')
 ·rfl
 cases (s==s')
 ·rfl
 cases (c==c')<;>cases (d==d')<;>cases (e==e')<;>cases (f==f')<;>rfl
def q9C (s t:LSt):Bool:=decide (s.q0a=t.q0a)&&decide (s.pairs=t.pairs)&&decide (s.q0j=t.q0j)&&decide (s.latest=t.latest)
def j00 {α:Type} [DecidableEq α] (l k:List α) (i:Nat):Bool:=decide (l[i]? = k[i]?)
theorem z1t {α:Type} [DecidableEq α] {l k:List α} (h:l.length=k.length):q2n (j00 l k) l.length 0=decide (l=k):=by
 rw[Bool.eq_iff_iff,q3m,decide_eq_true_iff];constructor
 ·intro h';apply List.ext_getElem?;intro i;by_cases hi:i<l.length
  ·exact of_decide_eq_true (h' i (by omega) (by omega))
  ·rw[List.getElem?_eq_none (by omega),List.getElem?_eq_none (by omega)]
 ·rintro rfl j _ _
  exact dt rfl
section
variable {m:Mem} {x y:Nat} {sp sq sa tp tq ta:AV} {s t:LSt}
theorem z5J (hx:m.get x=some (.cells [sp,sq,sa,.int .u64 s.latest] false)) (hy:m.get y=some (.cells [tp,tq,ta,.int .u64 t.latest] false)) (hs:BkV m sp sq sa s) (ht:BkV m tp tq ta t) (hn:s.q0a.length<=1000000000000000000) (hl:s.q0a.length=t.q0a.length) :
  ∀(d i:Nat),i+d=s.q0a.length->D22.gor 61441 [.ptr (some ⟨x,0⟩),.ptr (some ⟨y,0⟩),.int .i64 (i:Int)] m=if q2n (j00 s.q0a t.q0a) d i=true then D22.gor 61444 [.ptr (some ⟨x,0⟩),.ptr (some ⟨y,0⟩)] m else some (.bool false,m):=by
 have a3:∀i:Nat,ld1 m (.ptr (some ⟨x,i⟩))=[sp,sq,sa,.int .u64 s.latest][i]?:=fun i=>q0f hx
 have b3:∀i:Nat,ld1 m (.ptr (some ⟨y,i⟩))=[tp,tq,ta,.int .u64 t.latest][i]?:=fun i=>q0f hy
 intro d;induction d with
 |zero=>
  intro i hi;have:i=s.q0a.length:=by omega
  subst this;obtain⟨a,sz,cap,ex,e⟩:=hs.p.len;rw[xlm]at e;subst e;simp only[q2n,if_true];simp only[z2T (H:=H22),T.j8a,p1,q1,p2,q0b,q0d,a3,df (show ¬((s.q0a.length:Nat):Int)<(s.q0a.length:Int) by omega)]
 |succ d ih=>
  intro i hi;obtain⟨b,o,sz,cap,ex,e,z,_,e2,_,_,e3⟩:=hs.p.fld (i:=i) (by rw[xlm];omega);obtain⟨b',o',sz',cap',ex',e',z',_,e2',_,_,e3'⟩:=ht.p.fld (i:=i) (by rw[xlm];omega);rw[xlm]at e e2 e' e2';rw[xgm]at e3 e3';subst e e';have ne:=j99 (s.q0a[i]'(by omega)) (t.q0a[i]'(by omega));have hd:j00 s.q0a t.q0a i=decide (s.q0a[i]'(by omega)=t.q0a[i]'(by omega)):=by unfold j00;rw[xgq (by omega),xgq (by omega)];simp
  rw[q2n,hd];simp only[z2T (H:=H22),T.j8a,p1,q1,p2,q0b,q0d,a3,dt (show (i:Int)<(s.q0a.length:Int) by omega)];simp only[j1W (H:=H22),T.a3J,p1,q1,p2,q0b,q0d,a3,b3,eq_true z,eq_true z',if_true,e2,e2',e3,e3',ne];by_cases hp:s.q0a[i]'(by omega)=t.q0a[i]'(by omega)
  ·simp only[dt hp,xbt,Bool.true_and];simp only[j1X (H:=H22),T.a3K,p2,wp,show (i:Int)+1=((i+1:Nat):Int) by omega,wrap_i64 (n:=((i+1:Nat):Int)) (by omega) (by omega)];exact ih (i+1) (by omega)
  ·simp only[df hp,xbf,Bool.false_and,xbq,if_false]
theorem z5K (hx:m.get x=some (.cells [sp,sq,sa,.int .u64 s.latest] false)) (hy:m.get y=some (.cells [tp,tq,ta,.int .u64 t.latest] false)) (hs:BkV m sp sq sa s) (ht:BkV m tp tq ta t) (hn:s.pairs.length<=1000000000000000000) (hl:s.pairs.length=t.pairs.length) :
  ∀(d i:Nat),i+d=s.pairs.length->D22.gor 61445 [.ptr (some ⟨x,0⟩),.ptr (some ⟨y,0⟩),.int .i64 (i:Int)] m=if q2n (j00 s.pairs t.pairs) d i=true then D22.gor 61448 [.ptr (some ⟨x,0⟩),.ptr (some ⟨y,0⟩)] m else some (.bool false,m):=by
 have a3:∀i:Nat,ld1 m (.ptr (some ⟨x,i⟩))=[sp,sq,sa,.int .u64 s.latest][i]?:=fun i=>q0f hx
 have b3:∀i:Nat,ld1 m (.ptr (some ⟨y,i⟩))=[tp,tq,ta,.int .u64 t.latest][i]?:=fun i=>q0f hy
 intro d;induction d with
 |zero=>
  intro i hi;have:i=s.pairs.length:=by omega
  subst this;obtain⟨a,sz,cap,ex,e⟩:=hs.q.len;rw[xlm]at e;subst e;simp only[q2n,if_true];simp only[z2U (H:=H22),T.j8b,p1,q1,p2,q0b,q0d,a3,df (show ¬((s.pairs.length:Nat):Int)<(s.pairs.length:Int) by omega)]
 |succ d ih=>
  intro i hi;obtain⟨b,o,sz,cap,ex,e,z,_,e2,_,_,e3⟩:=hs.q.fld (i:=i) (by rw[xlm];omega);obtain⟨b',o',sz',cap',ex',e',z',_,e2',_,_,e3'⟩:=ht.q.fld (i:=i) (by rw[xlm];omega);rw[xlm]at e e2 e' e2';rw[xgm]at e3 e3';subst e e';have ne:=j96 (s.pairs[i]'(by omega)) (t.pairs[i]'(by omega));have hd:j00 s.pairs t.pairs i=decide (s.pairs[i]'(by omega)=t.pairs[i]'(by omega)):=by unfold j00;rw[xgq (by omega),xgq (by omega)];simp
  rw[q2n,hd];simp only[z2U (H:=H22),T.j8b,p1,q1,p2,q0b,q0d,a3,dt (show (i:Int)<(s.pairs.length:Int) by omega)];simp only[j1Z (H:=H22),T.a3M,p1,q1,p2,q0b,q0d,a3,b3,eq_true z,eq_true z',if_true,e2,e2',e3,e3',ne];by_cases hp:s.pairs[i]'(by omega)=t.pairs[i]'(by omega)
  ·simp only[dt hp,xbt,Bool.true_and];simp only[j14 (H:=H22),T.a3N,p2,wp,show (i:Int)+1=((i+1:Nat):Int) by omega,wrap_i64 (n:=((i+1:Nat):Int)) (by omega) (by omega)];exact ih (i+1) (by omega)
  ·simp only[df hp,xbf,Bool.false_and,xbq,if_false]
theorem z5H (hx:m.get x=some (.cells [sp,sq,sa,.int .u64 s.latest] false)) (hy:m.get y=some (.cells [tp,tq,ta,.int .u64 t.latest] false)) (hs:BkV m sp sq sa s) (ht:BkV m tp tq ta t) (hn:s.q0j.length<=1000000000000000000) (hl:s.q0j.length=t.q0j.length) :
  ∀(d i:Nat),i+d=s.q0j.length->D22.gor 61449 [.ptr (some ⟨x,0⟩),.ptr (some ⟨y,0⟩),.int .i64 (i:Int)] m=some (.bool (q2n (j00 s.q0j t.q0j) d i),m):=by
 have a3:∀i:Nat,ld1 m (.ptr (some ⟨x,i⟩))=[sp,sq,sa,.int .u64 s.latest][i]?:=fun i=>q0f hx
 have b3:∀i:Nat,ld1 m (.ptr (some ⟨y,i⟩))=[tp,tq,ta,.int .u64 t.latest][i]?:=fun i=>q0f hy
 intro d;induction d with
 |zero=>
  intro i hi;have:i=s.q0j.length:=by omega
  subst this;obtain⟨a,sz,cap,ex,e⟩:=hs.a.len;rw[xlm]at e;subst e;simp only[q2n];simp only[z2V (H:=H22),T.j8c,p1,q1,p2,q0b,q0d,a3,df (show ¬((s.q0j.length:Nat):Int)<(s.q0j.length:Int) by omega),z8n (H:=H22),T.j55,wp]
 |succ d ih=>
  intro i hi;obtain⟨b,o,sz,cap,ex,e,z,_,e2,_,_,e3⟩:=hs.a.fld (i:=i) (by rw[xlm];omega);obtain⟨b',o',sz',cap',ex',e',z',_,e2',_,_,e3'⟩:=ht.a.fld (i:=i) (by rw[xlm];omega);rw[xlm]at e e2 e' e2';rw[xgm]at e3 e3';subst e e';have ne:=j6K (s.q0j[i]'(by omega)) (t.q0j[i]'(by omega));have hd:j00 s.q0j t.q0j i=decide (s.q0j[i]'(by omega)=t.q0j[i]'(by omega)):=by unfold j00;rw[xgq (by omega),xgq (by omega)];simp
  rw[q2n,hd];simp only[z2V (H:=H22),T.j8c,p1,q1,p2,q0b,q0d,a3,dt (show (i:Int)<(s.q0j.length:Int) by omega)];simp only[z8l (H:=H22),T.j53,p1,q1,p2,q0b,q0d,a3,b3,eq_true z,eq_true z',if_true,e2,e2',e3,e3',ne];by_cases hp:s.q0j[i]'(by omega)=t.q0j[i]'(by omega)
  ·simp only[dt hp,xbt,Bool.true_and];simp only[z8m (H:=H22),T.j54,p2,wp,show (i:Int)+1=((i+1:Nat):Int) by omega,wrap_i64 (n:=((i+1:Nat):Int)) (by omega) (by omega)];exact ih (i+1) (by omega)
  ·simp only[df hp,xbf,Bool.false_and]
def q8a (s:LSt):Prop:=s.q0a.length<=1000000000000000000/\s.pairs.length<=1000000000000000000/\s.q0j.length<=1000000000000000000
theorem a0A (hs:BkV m sp sq sa s) (ht:BkV m tp tq ta t) (hn:q8a s) :
  Res m (run E22 (.fn 15) [.agg [sp,sq,sa,.int .u64 s.latest],.agg [tp,tq,ta,.int .u64 t.latest]] m) (.bool (q9C s t)):=by
 obtain⟨n1,n2,n3⟩:=hn;obtain⟨M,hM⟩:∃M,M=(m.lay (.cells [sp,sq,sa,.int .u64 s.latest] false)).lay (.cells [tp,tq,ta,.int .u64 t.latest] false):=⟨_,rfl⟩;have fM:Fr m M []:=by rw[hM];(repeat apply Fr.lays);exact Fr.refl _
 have hx:M.get m.next=some (.cells [sp,sq,sa,.int .u64 s.latest] false):=by rw[hM];simp only[Mem.q0E,Mem.q0q,nn1,if_true,if_false]
 have hy:M.get (m.next+1)=some (.cells [tp,tq,ta,.int .u64 t.latest] false):=by rw[hM];simp[Mem.q0E]
 have a3:∀i:Nat,ld1 M (.ptr (some ⟨m.next,i⟩))=[sp,sq,sa,.int .u64 s.latest][i]?:=fun i=>q0f hx
 have b3:∀i:Nat,ld1 M (.ptr (some ⟨m.next+1,i⟩))=[tp,tq,ta,.int .u64 t.latest][i]?:=fun i=>q0f hy
 have lp:=z5J hx hy (hs.q0k fM) (ht.q0k fM) n1;have lq:=z5K hx hy (hs.q0k fM) (ht.q0k fM) n2;have la:=z5H hx hy (hs.q0k fM) (ht.q0k fM) n3;obtain⟨x1,x2,x3,x4,e1⟩:=hs.p.len;obtain⟨x5,x6,x7,x8,e2⟩:=hs.q.len;obtain⟨x9,x10,x11,x12,e3⟩:=hs.a.len;obtain⟨y1,y2,y3,y4,f1⟩:=ht.p.len;obtain⟨y5,y6,y7,y8,f2⟩:=ht.q.len;obtain⟨y9,y10,y11,y12,f3⟩:=ht.a.len;rw[xlm]at e1 e2 e3 f1 f2 f3
 subst e1 e2 e3 f1 f2 f3;have done:∀{b:Bool},b=q9C s t->Res m (some (.bool b,M)) (.bool (q9C s t)):=fun h=>Res.eq fM (by rw[h])
 have fal:∀(h:s.q0a≠t.q0a\/s.pairs≠t.pairs\/s.q0j≠t.q0j\/s.latest≠t.latest),false=q9C s t:=fun h=>by
  unfold q9C;rcases h with h|h|h|h
  ·rw[df h];rfl
  ·rw[df h];simp
  ·rw[df h];simp
  ·rw[df h];simp
 simp only[a1E (H:=H22) rfl,T.f15,p1,q1,p2,q0N,q0b,ifV,q0d,AV.cells,AV.one,lcs,ge,if_true,xom,Mem.q0q,<-hM,a3,b3];by_cases h1:s.q0a.length=t.q0a.length
 ·by_cases h2:s.pairs.length=t.pairs.length
  ·by_cases h3:s.q0j.length=t.q0j.length
   ·by_cases h4:s.latest=t.latest
    ·simp only[show (s.q0a.length:Int)=(t.q0a.length:Int) by omega,show (s.pairs.length:Int)=(t.pairs.length:Int) by omega,show (s.q0j.length:Int)=(t.q0j.length:Int) by omega,h4,decide_true,xbt];have l1:=lp h1 s.q0a.length 0 (by omega);have l2:=lq h2 s.pairs.length 0 (by omega);have l3:=la h3 s.q0j.length 0 (by omega);rw[z1t h1]at l1;rw[z1t h2]at l2;rw[z1t h3]at l3;simp only[Int.natCast_zero]at l1 l2 l3
     simp only[j1V (H:=H22),T.a3I,wp,l1];by_cases g1:s.q0a=t.q0a
     ·rw[if_pos (dt g1)];simp only[j1Y (H:=H22),T.a3L,wp,l2];by_cases g2:s.pairs=t.pairs
      ·rw[if_pos (dt g2)];simp only[j15 (H:=H22),T.a3O,wp,l3];exact done (by unfold q9C;rw[dt g1,dt g2,dt h4];simp)
      ·rw[if_neg (by simpa using g2)];exact done (fal (.inr (.inl g2)))
     ·rw[if_neg (by simpa using g1)];exact done (fal (.inl g1))
    ·simp only[show (s.q0a.length:Int)=(t.q0a.length:Int) by omega,show (s.pairs.length:Int)=(t.pairs.length:Int) by omega,show (s.q0j.length:Int)=(t.q0j.length:Int) by omega,df h4,decide_true,xbt,xbf];exact done (fal (.inr (.inr (.inr h4))))
   ·simp only[show (s.q0a.length:Int)=(t.q0a.length:Int) by omega,show (s.pairs.length:Int)=(t.pairs.length:Int) by omega,df (show ¬(s.q0j.length:Int)=(t.q0j.length:Int) by omega),decide_true,xbt,xbf];exact done (fal (.inr (.inr (.inl fun e=>h3 (by rw[e])))))
  ·simp only[show (s.q0a.length:Int)=(t.q0a.length:Int) by omega,df (show ¬(s.pairs.length:Int)=(t.pairs.length:Int) by omega),decide_true,xbt,xbf];exact done (fal (.inr (.inl fun e=>h2 (by rw[e]))))
 ·simp only[df (show ¬(s.q0a.length:Int)=(t.q0a.length:Int) by omega),xbf];exact done (fal (.inl fun e=>h1 (by rw[e])))
end
end
end Go.Proofs.YtlginbmjiecglaaGreatDoor
namespace Go.Abs
section
open Go
section
variable {P:Program} {t e:TypeId} {n:Nat} {m:Mem} {s:AV} {l:List (List AV)}
theorem q3K.q1M (ht:P.underlying t=some (.slice e)) (h:q3K n m s l):q1M P t s=some (.int .i64 (l.length:Int)):=by
 obtain⟨a,sz,cap,ex,rfl⟩:=h.len;exact z0L ht ..
theorem q3K.ixT (ht:P.underlying t=some (.slice e)) (hs:szT P e=some n) (h:q3K n m s l) {i:Nat} (hi:i<l.length) :
  ∃b o,b<m.next/\(∀k:IntKind,q0F P t s (.int k (i:Int))=some (.ptr (some ⟨b,o⟩)))/\(∀k,k<n->ld1 m (.ptr (some ⟨b,o+k⟩))=l[i][k]?)/\(∀k j,k+j<=n->ldN m (.ptr (some ⟨b,o+k⟩)) j=some (.agg ((l[i].drop k).take j)))/\ldN m (.ptr (some ⟨b,o⟩)) n=some (.agg l[i]):=by
 obtain⟨b,o,sz,cap,ex,e1,e2,e3,e4,e5,e6,e7⟩:=h.fld hi;refine⟨b,o+i*n,e3,fun k=>?_,e5,e6,e7⟩
 subst e1;unfold q0F;simp only[ht,hs];rw[if_pos e2];exact e4
theorem q0L.ixT (ht:P.underlying t=some (.slice e)) (hs:szT P e=some n) {rb:Option Nat} (h:q0L n m s l rb) {i:Nat} (hi:i<l.length) :
  ∃b,rb=some b/\∀k:IntKind,q0F P t s (.int k (i:Int))=some (.ptr (some ⟨b,i*n⟩)):=by
 obtain⟨b,e1,e2,e3,e4,_⟩:=h.at hi;refine⟨b,e1,fun k=>?_⟩
 subst e2;unfold q0F;simp only[ht,hs,true_or,if_true];exact e4
end
theorem q0L.reads {P:Program} {t e:TypeId} {n:Nat} {m:Mem} {s:AV} {α:Type} {f:α->List AV} {l:List α} {rb:Option Nat} (ht:P.underlying t=some (.slice e)) (hs:szT P e=some n) (h:q0L n m s (l.map f) rb) {i:Nat} {x:α} (hx:l[i]? = some x) :
  ∃b,rb=some b/\b<m.next/\(∀k:IntKind,q0F P t s (.int k (i:Int))=some (.ptr (some ⟨b,i*n⟩)))/\(∀M,Fr m M []->∀o,o<n->ld1 M (.ptr (some ⟨b,i*n+o⟩))=(f x)[o]?)/\(∀M,Fr m M []->∀o k,o+k<=n->ldN M (.ptr (some ⟨b,i*n+o⟩)) k=some (.agg (((f x).drop o).take k))):=by
 obtain⟨hi,rfl⟩:=xgi.1 hx;obtain⟨b,e1,e2⟩:=h.ixT ht hs (i:=i) (by rw[xlm];exact hi);have key:∀M,Fr m M []->(∀o,o<n->ld1 M (.ptr (some ⟨b,i*n+o⟩))=(f l[i])[o]?)/\(∀o k,o+k<=n->ldN M (.ptr (some ⟨b,i*n+o⟩)) k=some (.agg (((f l[i]).drop o).take k))):=fun M hM=>by
  obtain⟨b',g1,_,_,g4,g5⟩:=(h.frame hM (by simp)).fld (i:=i) (by rw[xlm];exact hi);rw[e1]at g1;cases g1;rw[xgm]at g4 g5;exact⟨g4,g5⟩
 exact⟨b,e1,by subst e1;exact h.lt,e2,fun M hM=>(key M hM).1,fun M hM=>(key M hM).2⟩
def upTo (s:AV) (n k:Nat):AV:=match s with | .sl (some a) _ _ cap ex=>.sl (some a) n k cap ex | _=>.sl none n 0 0 true
def q7B (s:AV) (n k:Nat):AV:=match s with | .sl (some a) _ len cap ex=>.sl (some ⟨a.b,a.o+k*n⟩) n (len-k) (cap-k) ex | _=>.sl none n 0 0 true
section
variable {P:Program} {t e:TypeId} {n:Nat} {m:Mem} {s:AV} {l:List (List AV)} {rb:Option Nat}
theorem q0L.upTo (ht:P.underlying t=some (.slice e)) (hs:szT P e=some n) (h:q0L n m s l rb) {k:Nat} (hk:k<=l.length):q0o P t s none (some (.int .i64 (k:Int)))=some (upTo s n k)/\q3K n m (upTo s n k) (l.take k):=by
 have hl:=q1j h.lens;have h0:∀x∈l.take k,x.length=n/\x.all AV.one=true:=fun x hx=>h.1 x (List.mem_of_mem_take hx)
 rcases h.2 with (⟨rfl,rfl,sz,ex,rfl⟩|⟨b,rfl,rfl,rfl,h3⟩)|⟨b,rfl,rfl,h3⟩
 ·have:k=0:=by simpa using hk
  subst this;refine⟨?_,h0,.inl ⟨by simp,_,_,_,rfl⟩⟩;simp[q0o,ht,hs,hiA,loA,Abs.upTo]
 ·have:k=0:=by simpa using hk
  subst this;refine⟨?_,h0,.inr ⟨b,0,n,0,true,false,[],by simp[Abs.upTo],.inl rfl,h3,by simp,by simp⟩⟩;simp[q0o,ht,hs,hiA,loA,Abs.upTo]
 ·refine⟨?_,h0,.inr ⟨b,0,_,_,_,_,_,by simp only[Abs.upTo,xlt0];rw[Nat.min_eq_left hk],.inl rfl,h3,?_,?_⟩⟩
  ·have hk':(k:Int)<=(l.length:Int):=by omega
   simp[q0o,ht,hs,hiA,loA,Abs.upTo,hk]
  ·rw[hl,xlt0,Nat.min_eq_left hk,xnz];exact Nat.mul_le_mul_right n hk
  ·rw[xlt0,Nat.min_eq_left hk,List.drop_zero,q4Z k h.lens]
theorem q0L.q7B (ht:P.underlying t=some (.slice e)) (hs:szT P e=some n) (h:q0L n m s l rb) {k:Nat} (hk:k<=l.length):q0o P t s (some (.int .i64 (k:Int))) none=some (q7B s n k)/\q3K n m (q7B s n k) (l.drop k):=by
 have hl:=q1j h.lens;have h0:∀x∈l.drop k,x.length=n/\x.all AV.one=true:=fun x hx=>h.1 x (List.mem_of_mem_drop hx)
 rcases h.2 with (⟨rfl,rfl,sz,ex,rfl⟩|⟨b,rfl,rfl,rfl,h3⟩)|⟨b,rfl,rfl,h3⟩
 ·have:k=0:=by simpa using hk
  subst this;refine⟨?_,h0,.inl ⟨by simp,_,_,_,rfl⟩⟩;simp[q0o,ht,hs,hiA,loA,Abs.q7B]
 ·have:k=0:=by simpa using hk
  subst this;refine⟨?_,h0,.inr ⟨b,0,n,0,true,false,[],by simp[Abs.q7B],.inl rfl,h3,by simp,by simp⟩⟩;simp[q0o,ht,hs,hiA,loA,Abs.q7B]
 ·have e1:k*n+(l.length-k)*n=l.length*n:=by rw[<-Nat.add_mul];congr 1;omega
  refine⟨?_,h0,.inr ⟨b,k*n,n,l.length-k,false,false,l.flatten,?_,.inl rfl,h3,?_,?_⟩⟩
  ·simp[q0o,ht,hs,hiA,loA,Abs.q7B,hk]
  ·simp[Abs.q7B]
  ·rw[hl,xld0];omega
  ·rw[xld0,q1T k h.lens];exact xtl (by rw[q1j (fun x hx=>(h0 x hx).1),xld0];omega)
end
theorem append_nil {n w:Nat} {m:Mem} {x:AV} {l:List (List AV)} (h:q3K n m x l) (hw:l.length*w<=q0A) :
  ∃s' m' r,q0P n w (.sl none 0 0 0 true) x m=some (s',m')/\q0L n m' s' l r/\Fr m m' []/\(∀c,r=some c->m.next<=c):=by
 unfold q0P;rw[h.src];simp only[h.ones,not_true_eq_false,if_false];by_cases h0:l.length=0
 ·rw[if_pos h0];have:l=[]:=List.length_eq_zero_iff.1 h0;subst this;exact⟨_,_,none,rfl,q0L.nil _ _ _ _,Fr.refl _,nofun⟩
 ·rw[if_neg h0,if_pos hw];exact⟨_,_,some m.next,rfl,⟨h.1,.inr ⟨m.next,rfl,rfl,by simp[Mem.q0E]⟩⟩,Fr.alloc _ _,fun c hc=>by cases hc;exact xnr _⟩
theorem q2x {n w:Nat} {m:Mem} {s x:AV} {l k:List (List AV)} {b:Nat} (h:q0L n m s l (some b)) (hx:q3K n m x k) (hw:(l.length+k.length)*w<=q0A) :
  ∃s' m' r,q0P n w s x m=some (s',m')/\q0L n m' s' (l++k) (some r)/\Fr m m' [b]/\(r=b\/m.next<=r):=by
 have hall:∀y∈l++k,y.length=n/\y.all AV.one=true:=by
  intro y hy;rw[xma]at hy;exact hy.elim (h.1 y) (hx.1 y)
 have hfl:=q1j h.lens;have hfk:=q1j hx.lens;rcases h.2 with (⟨_,h0,_⟩|⟨b',rfl,h1,rfl,h3⟩)|⟨b',h1,rfl,h3⟩
 ·cases h0
 ·cases h1;unfold q0P;rw[hx.src];simp only[hx.ones,not_true_eq_false,if_false,true_or,if_true];by_cases h0:k.length=0
  ·have:k=[]:=List.length_eq_zero_iff.1 h0;subst this;rw[if_pos (by simp)];have hst:q1h m ⟨b,0+0*n⟩ ([]:List (List AV)).flatten=some (m.put b (some (.cells [] false))):=by
    simp[q1h,h3]
   rw[hst];exact⟨_,_,b,rfl,⟨hall,.inl (.inr ⟨b,by simp,rfl,rfl,q0w h3⟩)⟩,Fr.put _ _ _,.inl rfl⟩
  ·have hld:q0y m ⟨b,0⟩ (0*n)=some []:=by simp[q0y,h3]
   rw[if_neg (by omega),if_pos (by simpa using hw),hld];simp only;exact⟨_,_,m.next,rfl,⟨hall,.inr ⟨m.next,rfl,by simp,by simp[Mem.q0E]⟩⟩,(Fr.alloc _ _).mono (by simp),.inr (xnr _)⟩
 cases h1;unfold q0P;rw[hx.src];simp only[hx.ones,not_true_eq_false,if_false,true_or,if_true];by_cases h0:k.length=0
 ·have:k=[]:=List.length_eq_zero_iff.1 h0;subst this;rw[if_pos (by simp)];have hst:q1h m ⟨b,0+l.length*n⟩ ([]:List (List AV)).flatten=some (m.put b (some (.cells l.flatten false))):=by
   simp only[q1h,h3];rw[if_pos (by simp[hfl]),xnz];simp only[List.flatten_nil,List.length_nil,xna,List.append_nil,List.take_append_drop]
  rw[hst];refine⟨_,_,b,rfl,⟨hall,.inr ⟨b,rfl,by simp,?_⟩⟩,Fr.put _ _ _,.inl rfl⟩;rw[List.append_nil];exact q0w h3
 ·rw[if_neg (by omega),if_pos hw];have hld:q0y m ⟨b,0⟩ (l.length*n)=some l.flatten:=by
   simp only[q0y,h3];rw[if_pos (by omega),List.drop_zero,xtl (by omega)]
  rw[hld];simp only[xbq,if_false,h3];refine⟨_,_,m.next,rfl,⟨hall,.inr ⟨m.next,rfl,by simp,?_⟩⟩,((Fr.put m b none).trans (Fr.alloc _ _) (by simp) (by simp)),.inr (xnr _)⟩
  simp[Mem.q0E,List.flatten_append]
theorem z4b {n w:Nat} (hn:0<n) {m:Mem} {s:AV} {l:List (List AV)} {rb:Option Nat} (h:q0L n m s l rb) {sA sB:AV} {k:Nat} (hk:k<=l.length) (hA:q3K n m sA (l.take k)) (hB:q3K n m sB (l.drop k))
  {new:List AV} (hl:new.length=n) (ho:new.all AV.one=true) (hw:(l.length+1)*w<=q0A) :
  ∃s1 m1 s2 m2 s3 m3 r,q0P n w (.sl none 0 0 0 true) sA m=some (s1,m1)/\q0P n w s1 (.sl (some ⟨m1.next,0⟩) n 1 1 true) (m1.lay (.cells new false))=some (s2,m2)/\q0P n w s2 sB m2=some (s3,m3)/\
   q0L n m3 s3 (q2Q k new l) (some r)/\Fr m m1 []/\Fr m m2 []/\Fr m m3 []/\m.next<=r:=by
 obtain⟨s1,m1,r1,a1,a2,a3,a4⟩:=append_nil hA (xnt0 (Nat.mul_le_mul_right w (by rw[xlt0];omega)) hw);have f1:Fr m1 (m1.lay (.cells new false)) []:=(Fr.refl m1).lay _;have r1lt:∀c,r1=some c->c<m1.next:=fun c hc=>by subst hc;exact a2.lt
 obtain⟨s2,m2,b1,b2,b3,b4⟩:=q2y (w:=w) hn (a2.frame f1 (by simp)) (q0e m1 (.cells new false)) hl ho (by
  rw[xlt0,Nat.min_eq_left hk];exact xnt0 (Nat.mul_le_mul_right w (by omega)) hw)
 have F2:Fr m m2 []:=(a3.step0 f1).step b4 (fun c hc=>by rw[Option.mem_toList]at hc;exact .inr (a4 c hc))
 have n1:=a3.next
 obtain⟨s3,m3,r,c1,c2,c3,c4⟩:=q2x (w:=w) b2 (hB.q0k F2) (by
  rw[xla0,xlt0,xld0,Nat.min_eq_left hk];simp only[List.length_cons,List.length_nil];exact xnt0 (Nat.mul_le_mul_right w (by omega)) hw)
 have e9:(m1.lay (.cells new false)).next=m1.next+1:=rfl
 refine⟨s1,m1,s2,m2,s3,m3,r,a1,b1,c1,?_,a3,F2,F2.step c3 (fun c hc=>by simp only[xms]at hc;exact .inr (by omega)),?_⟩
 ·rw[List.append_assoc]at c2;exact c2
 ·have:=F2.next
  rcases c4 with h|h<;>omega
end
end Go.Abs
namespace Go.Proofs.YtlginbmjiecglaaGreatDoor
section
set_option maxRecDepth 4000
open Go Go.Abs
section
variable {m:Mem} {b:Nat} {st:LSt} {F:List Nat}
theorem uP:∃e,Tryz.prog.underlying 23=some (.slice e)/\szT Tryz.prog e=some 4:=⟨56,by kernel_rfl,by kernel_rfl⟩
theorem z5y (h:q0G m b st F) (w:LWf st) (name:List UInt8) (t2:AV):∀(d k:Nat),k+d=lb q0c name (st.q0a.map (·.name))->
  D22.gor 110593 [.ptr (some ⟨b,0⟩),.str name,t2,.int .i64 (k:Int)] m=D22.gor 110595 [.ptr (some ⟨b,0⟩),.str name,t2,.int .i64 ((lb q0c name (st.q0a.map (·.name)):Nat):Int)] m:=by
 obtain⟨sp,sq,sa,rp,rq,ra,h1,h2,h3,h4,h5⟩:=h.ex;have a3:∀i:Nat,ld1 m (.ptr (some ⟨b,i⟩))=[sp,sq,sa,.int .u64 st.latest,.int .i64 st.most][i]?:=fun i=>q0f h1
 obtain⟨e,he,hs⟩:=uP;have hle:=q9i (lt:=q0c) name (st.q0a.map (·.name));rw[xlm]at hle;have hlp:=w.lp;have hlen:=h2.v.q1M he;rw[xlm]at hlen;intro d;induction d with
 |zero=>
  intro k hk;have:k=lb q0c name (st.q0a.map (·.name)):=by omega
  rw[<-this];by_cases hlt:k<st.q0a.length
  ·obtain⟨bb,o,_,x2,x3,_,_⟩:=h2.v.ixT he hs (i:=k) (by rw[xlm];exact hlt);have x4:=x3 0 (by omega);rw[xgm]at x4;have hat:=j34 (lt:=q0c) (k:=name) (ks:=st.q0a.map (·.name)) (by rw[xlm];omega);simp only[<-this,xgm]at hat;simp only[ge,q0r.cells,xna]at x4;simp only[q8M (H:=H22),T.j2l,p1,q1,p2,nnA,q0b,ifV,q0d,a3,hlen,dt (show (k:Int)<(st.q0a.length:Int) by omega),x2,x4,hat]
  ·simp only[q8M (H:=H22),T.j2l,p1,q1,p2,nnA,q0b,ifV,q0d,a3,hlen,df (show ¬(k:Int)<(st.q0a.length:Int) by omega)]
 |succ d ih=>
  intro k hk;have hlt:k<st.q0a.length:=by omega
  obtain⟨bb,o,_,x2,x3,_,_⟩:=h2.v.ixT he hs (i:=k) (by rw[xlm];exact hlt);have x4:=x3 0 (by omega);rw[xgm]at x4;have hbe:=q6u (lt:=q0c) (k:=name) (ks:=st.q0a.map (·.name)) (j:=k) (by rw[xlm];omega) (by omega);rw[xgm]at hbe;simp only[ge,q0r.cells,xna]at x4;simp only[q8M (H:=H22),T.j2l,p1,q1,p2,nnA,q0b,ifV,q0d,a3,hlen,dt (show (k:Int)<(st.q0a.length:Int) by omega),x2,x4,hbe]
  simp only[j2m (H:=H22),T.a4b,p2,wp,show (k:Int)+1=((k+1:Nat):Int) by omega,wrap_i64 (n:=((k+1:Nat):Int)) (by omega) (by omega)];exact ih (k+1) (by omega)
theorem q0G.q0a {sp sq sa sp':AV} {rq ra:Option Nat} {r:Nat} {ps:List q0r} {m':Mem} (h1:m.get b=some (.cells [sp,sq,sa,.int .u64 st.latest,.int .i64 st.most] false)) (h3:q0L 9 m sq (st.pairs.map (·.cells)) rq) (h4:q0L 4 m sa (st.q0j.map (·.cells)) ra)
  (h6:b∉rq.toList) (h7:b∉ra.toList) (h10:Dj rq.toList ra.toList) (hf:Fr m m' []) (hr:q0L 4 m' sp' (ps.map (·.cells)) (some r)) (hn:m.next<=r) :
  ∃m2 F',stV m' (.ptr (some ⟨b,0⟩)) sp' 1=some m2/\q0G m2 b {st with q0a:=ps} F'/\Fr m m2 [b]/\∀c,c∈F'->c=b\/c∈rq.toList\/c∈ra.toList\/m.next<=c:=by
 have B:=hf.get h1 (by simp);have hb:=Mem.q0v h1;have s1:=hr.one;have lq:∀c,c∈rq.toList->c<m.next:=fun c hc=>by rw[Option.mem_toList]at hc;subst hc;exact h3.lt
 have la:∀c,c∈ra.toList->c<m.next:=fun c hc=>by rw[Option.mem_toList]at hc;subst hc;exact h4.lt
 have sv:stV m' (.ptr (some ⟨b,0⟩)) sp' 1=some (m'.put b (some (.cells [sp',sq,sa,.int .u64 st.latest,.int .i64 st.most] false))):=by
  have:=q1B (v:=sp') (vs:=[sp']) (o:=0) (n:=1) B (q3c s1) rfl (by simp);simpa using this
 have fp:Fr m' (m'.put b (some (.cells [sp',sq,sa,.int .u64 st.latest,.int .i64 st.most] false))) [b]:=Fr.put _ _ _;have fA:Fr m (m'.put b (some (.cells [sp',sq,sa,.int .u64 st.latest,.int .i64 st.most] false))) [b]:=(hf.any _).step fp (fun c hc=>.inl hc)
 have nb:∀{r:Option Nat},b∉r.toList->∀c,r=some c->c∉[b]:=fun hr c hc=>by simp only[xms];rintro rfl;exact hr (by rw[hc];simp)
 refine⟨_,b::((some r).toList++rq.toList++ra.toList),sv,⟨sp',sq,sa,some r,rq,ra,q0w B,hr.frame fp (fun c hc=>by cases hc;simp;omega),h3.frame fA (nb h6),h4.frame fA (nb h7),by simp;omega,h6,h7,?_,?_,h10,rfl⟩,fA,?_⟩
 ·intro c h1' h2';simp only[Option.toList_some,xms]at h1';have:=lq c h2';omega
 ·intro c h1' h2';simp only[Option.toList_some,xms]at h1';have:=la c h2';omega
 ·intro c hc;simp only[xmk0,xma,Option.toList_some,List.not_mem_nil,or_false]at hc;rcases hc with hc|(hc|hc)|hc
  ·exact .inl hc
  ·exact .inr (.inr (.inr (by omega)))
  ·exact .inr (.inl hc)
  ·exact .inr (.inr (.inl hc))
theorem j4x (h:q0G m b st F) (w:LWf st) (name:List UInt8) (hn:name.length<4611686018427387904) {scale:Int} (h0:0<=scale) :
  ∃m' F',run E22 (.fn 27) [.ptr (some ⟨b,0⟩),.str name,.int .u64 scale] m=some (.int .i64 (z1G st name scale).1,m')/\q0G m' b (z1G st name scale).2 F'/\Fr m m' F/\∀c,c∈F'->c∈F\/m.next<=c:=by
 have rn:=fun m=>z4p (H:=H22) rfl name hn m
 have gp:=q9z (H:=H22) rfl h (by have:=w.lp;omega) name;have gp0:=gp m (Fr.refl m);have hlp:=w.lp;have lo:=z5y h w name (.int .u64 scale);obtain⟨sp,sq,sa,rp,rq,ra,h1,h2,h3,h4,h5,h6,h7,h8,h9,h10,hF⟩:=h.ex;have hb:=Mem.q0v h1;have a3:∀i:Nat,ld1 m (.ptr (some ⟨b,i⟩))=[sp,sq,sa,.int .u64 st.latest,.int .i64 st.most][i]?:=fun i=>q0f h1
 obtain⟨e,he,hs⟩:=uP;have hlen:=h2.v.q1M he;rw[xlm]at hlen;have done:∀v:AV,∃m' F',some (v,m)=some (v,m')/\q0G m' b st F'/\Fr m m' F/\∀c,c∈F'->c∈F\/m.next<=c:=fun v=>⟨m,F,rfl,h,Fr.refl' _ _,fun c hc=>.inl hc⟩
 unfold z1G;cases hnb:q3x name with
 |false=>
  rw[hnb]at rn;rw[if_pos rfl];simp only[q95 (H:=H22) rfl,T.f27,p1,p2,q1,nnA,q0b,unA,q0d,rn,xbf];exact done _
 |true=>
  rw[hnb]at rn;rw[if_neg (by decide)];by_cases hsc:18<scale
  ·rw[if_pos hsc];simp only[q95 (H:=H22) rfl,T.f27,p1,p2,q1,nnA,q0b,unA,q0d,rn,xbt,dt hsc];exact done _
  ·rw[if_neg hsc];cases hk:q0Y q0c name (st.q0a.map (·.name)) with
   |true=>
    rw[q9w w hk]at gp0;rw[if_pos rfl];simp only[q95 (H:=H22) rfl,T.f27,p1,p2,q1,nnA,q0b,unA,q0d,rn,xbt,df hsc,gp0,dt (show (0:Int)<=((st.iP name:Nat):Int) by omega)];exact done _
   |false=>
    rw[z4o w hk]at gp0;rw[if_neg (by decide)];by_cases h8p:8<=st.q0a.length
    ·rw[if_pos h8p];simp only[q95 (H:=H22) rfl,T.f27,p1,p2,q1,nnA,q0b,unA,q0d,rn,xbt,df hsc,gp0,df (show ¬(0:Int)<=-1 by omega),a3,hlen,dt (show (8:Int)<=(st.q0a.length:Int) by omega)];exact done _
    ·rw[if_neg h8p];obtain⟨k,hk'⟩:∃k,k=lb q0c name (st.q0a.map (·.name)):=⟨_,rfl⟩;have l0:=lo k 0 (by omega);rw[<-hk']at l0⊢;have hkl:k<=(st.q0a.map (·.cells)).length:=by rw[xlm,hk'];have:=q9i (lt:=q0c) name (st.q0a.map (·.name));rw[xlm]at this;exact this
     obtain⟨u1,u2⟩:=h2.upTo he hs hkl;obtain⟨v1,v2⟩:=h2.q7B he hs hkl;obtain⟨s1,m1,s2,m2,s3,m3,r,q1,q2,q3,q4,f1,f2,f3,q5⟩:=z4b (w:=40) (by omega) h2 hkl u2 v2 (new:=(q0r.mk name scale ⟨0,0⟩).cells) rfl rfl (q04 (by rw[xlm];omega) (by decide));rw[<-q3u (·.cells) k (q0r.mk name scale ⟨0,0⟩)]at q4;obtain⟨m4,F',z1,z2,z3,z4⟩:=q0G.q0a h1 h3 h4 h6 h7 h10 f3 q4 q5;have a31:∀i:Nat,ld1 m1 (.ptr (some ⟨b,i⟩))=[sp,sq,sa,.int .u64 st.latest,.int .i64 st.most][i]?:=fun i=>q0f (f1.get h1 (by simp))
     have a32:∀i:Nat,ld1 m2 (.ptr (some ⟨b,i⟩))=[sp,sq,sa,.int .u64 st.latest,.int .i64 st.most][i]?:=fun i=>q0f (f2.get h1 (by simp))
     have a33:∀i:Nat,ld1 (m1.lay (.cells (q0r.mk name scale ⟨0,0⟩).cells false)) (.ptr (some ⟨b,i⟩))=[sp,sq,sa,.int .u64 st.latest,.int .i64 st.most][i]?:=fun i=>q0f ((f1.step0 ((Fr.refl m1).lay _)).get h1 (by simp))
     refine⟨m4,F',?_,z2,z3.mono (by rw[hF];simp),fun c hc=>?_⟩
     ·simp only[q95 (H:=H22) rfl,T.f27,p1,p2,nnA,q0b,unA,q0d,rn,xbt,df hsc,gp0,df (show ¬(0:Int)<=-1 by omega),a3,hlen,df (show ¬(8:Int)<=(st.q0a.length:Int) by omega)];simp only[Int.natCast_zero]at l0;have bs:=q4x (n:=4) (zs:=[.str [],.int .i64 0,.int .i64 0,.int .u64 0]) (cs:=(q0r.mk name scale ⟨0,0⟩).cells) rfl rfl rfl;simp only[q0r.cells]at bs q2 a33
      have ws:IntKind.wrap .i64 scale=scale:=wrap_i64 (by omega) (by omega);simp only[j2k (H:=H22),T.a4a,wp,l0];simp only[j2n (H:=H22),T.a4c,p1,q1,p2,apE,q0n,AV.cells,Nat.reduceAdd,Nat.reduceLeDiff,nnA,a0O,a3,u1,ws,bs,a33,q2,a32,v1,q3,z1]
     ·rcases z4 c hc with h|h|h|h
      ·exact .inl (by rw[hF,h];simp)
      ·exact .inl (by rw[hF];simp[h])
      ·exact .inl (by rw[hF];simp[h])
      ·exact .inr h
end
end
section
set_option maxRecDepth 4000
open Go Go.Abs
section
variable {m:Mem} {b:Nat} {st:LSt} {F:List Nat}
theorem uQ:∃e,Tryz.prog.underlying 24=some (.slice e)/\szT Tryz.prog e=some 9:=⟨74,by kernel_rfl,by kernel_rfl⟩
theorem q0G.stQ (h:q0G m b st F) {sp sq sa:AV} (hb:m.get b=some (.cells [sp,sq,sa,.int .u64 st.latest,.int .i64 st.most] false)) {i:Nat} {q q':q0D} (gq:st.pairs[i]? = some q) {o:Nat} {vs:List AV} (ho:o+vs.length<=9) (hv:vs.all AV.one=true)
  (hq':q.cells.take o++vs++q.cells.drop (o+vs.length)=q'.cells) :
  ∃bb m1,(∀k:IntKind,q0F Tryz.prog 24 sq (.int k (i:Int))=some (.ptr (some ⟨bb,i*9⟩)))/\stV m (.ptr (some ⟨bb,i*9+o⟩)) (.agg vs) vs.length=some m1/\q0G m1 b {st with pairs:=st.pairs.set i q'} F/\Fr m m1 F/\m1.next=m.next/\m1.get b=m.get b:=by
 obtain⟨sp',sq',sa',rp,rq,ra,h1,h2,h3,h4,h5,h6,h7,h8,h9,h10,rfl⟩:=h.ex;rw[h1]at hb;simp only[xoi,Blk.cells.injEq,List.cons.injEq,and_true]at hb;obtain⟨rfl,rfl,rfl⟩:=hb;obtain⟨hlt,hga⟩:=xgi.1 gq;obtain⟨bb,e1,e2,e3⟩:=h3.sto (i:=i) (by rw[xlm];exact hlt) (o:=o) (vs:=vs) ho hv;obtain⟨e,he,hs⟩:=uQ;obtain⟨bb',f1,f2⟩:=h3.ixT he hs (i:=i) (by rw[xlm];exact hlt);rw[e1]at f1;cases f1;have hv':(st.pairs.map (·.cells)).set i (((st.pairs.map fun x:q0D=>x.cells)[i]'(by rw[xlm];exact hlt)).take o++vs++((st.pairs.map fun x:q0D=>x.cells)[i]'(by rw[xlm];exact hlt)).drop (o+vs.length))=(st.pairs.set i q').map (·.cells):=by
  rw[xgm,hga,hq',List.map_set]
 rw[hv']at e2 e3;have hbb:bb≠b:=fun e=>h6 (by rw[e1,e];simp)
 have hf:Fr m (m.put bb (some (.cells ((st.pairs.set i q').map (·.cells)).flatten false))) [bb]:=Fr.put _ _ _;refine⟨bb,_,f2,e2,⟨sp',sq',sa',rp,rq,ra,hf.get h1 (by simp;exact fun e=>hbb e.symm),h2.frame hf (fun c hc=>?_),e3,h4.frame hf (fun c hc=>?_),h5,h6,h7,h8,h9,h10,rfl⟩,hf.mono (fun c hc=>?_),rfl,?_⟩
 ·simp only[xms];rintro rfl;exact h8 c (by rw[hc];simp) (by rw[e1];simp)
 ·simp only[xms];rintro rfl;exact h10 c (by rw[e1];simp) (by rw[hc];simp)
 ·simp only[xms]at hc;subst hc;rw[e1];simp
 ·exact q1X (fun e=>hbb e.symm)
theorem q0G.pairs {sp sq sa sq':AV} {rp ra:Option Nat} {r:Nat} {qs:List q0D} {m':Mem} (h1:m.get b=some (.cells [sp,sq,sa,.int .u64 st.latest,.int .i64 st.most] false)) (h2:q0L 4 m sp (st.q0a.map (·.cells)) rp) (h4:q0L 4 m sa (st.q0j.map (·.cells)) ra)
  (h5:b∉rp.toList) (h7:b∉ra.toList) (h9:Dj rp.toList ra.toList) (hf:Fr m m' []) (hr:q0L 9 m' sq' (qs.map (·.cells)) (some r)) (hn:m.next<=r) :
  ∃m2 F',stV m' (.ptr (some ⟨b,1⟩)) sq' 1=some m2/\q0G m2 b {st with pairs:=qs} F'/\Fr m m2 [b]/\∀c,c∈F'->c=b\/c∈rp.toList\/c∈ra.toList\/m.next<=c:=by
 have B:=hf.get h1 (by simp);have hb:=Mem.q0v h1;have s1:=hr.one;have lp:∀c,c∈rp.toList->c<m.next:=fun c hc=>by rw[Option.mem_toList]at hc;subst hc;exact h2.lt
 have la:∀c,c∈ra.toList->c<m.next:=fun c hc=>by rw[Option.mem_toList]at hc;subst hc;exact h4.lt
 have sv:stV m' (.ptr (some ⟨b,1⟩)) sq' 1=some (m'.put b (some (.cells [sp,sq',sa,.int .u64 st.latest,.int .i64 st.most] false))):=by
  have:=q1B (v:=sq') (vs:=[sq']) (o:=1) (n:=1) B (q3c s1) rfl (by simp);simpa using this
 have fp:Fr m' (m'.put b (some (.cells [sp,sq',sa,.int .u64 st.latest,.int .i64 st.most] false))) [b]:=Fr.put _ _ _;have fA:Fr m (m'.put b (some (.cells [sp,sq',sa,.int .u64 st.latest,.int .i64 st.most] false))) [b]:=(hf.any _).step fp (fun c hc=>.inl hc)
 have nb:∀{r:Option Nat},b∉r.toList->∀c,r=some c->c∉[b]:=fun hr c hc=>by simp only[xms];rintro rfl;exact hr (by rw[hc];simp)
 refine⟨_,b::(rp.toList++(some r).toList++ra.toList),sv,⟨sp,sq',sa,rp,some r,ra,q0w B,h2.frame fA (nb h5),hr.frame fp (fun c hc=>by cases hc;simp;omega),h4.frame fA (nb h7),h5,by simp;omega,h7,?_,h9,?_,rfl⟩,fA,?_⟩
 ·intro c h1' h2';simp only[Option.toList_some,xms]at h2';have:=lp c h1';omega
 ·intro c h1' h2';simp only[Option.toList_some,xms]at h1';have:=la c h2';omega
 ·intro c hc;simp only[xmk0,xma,Option.toList_some,List.not_mem_nil,or_false]at hc;rcases hc with hc|(hc|hc)|hc
  ·exact .inl hc
  ·exact .inr (.inl hc)
  ·exact .inr (.inr (.inr (by omega)))
  ·exact .inr (.inr (.inl hc))
theorem j4I (h:q0G m b st F) (w:LWf st) {x y:List UInt8} (hx:x.length=3) (t7:AV):∀(d k:Nat),k+d=lb q0c (x++y) (st.pairs.map (·.key))->
  D22.gor 135172 [.ptr (some ⟨b,0⟩),.str x,.str y,t7,.int .i64 (k:Int)] m=D22.gor 135174 [.ptr (some ⟨b,0⟩),.str x,.str y,t7,.int .i64 ((lb q0c (x++y) (st.pairs.map (·.key)):Nat):Int)] m:=by
 obtain⟨sp,sq,sa,rp,rq,ra,h1,h2,h3,h4,h5⟩:=h.ex;have a3:∀i:Nat,ld1 m (.ptr (some ⟨b,i⟩))=[sp,sq,sa,.int .u64 st.latest,.int .i64 st.most][i]?:=fun i=>q0f h1
 obtain⟨e,he,hs⟩:=uQ;have hle:=q9i (lt:=q0c) (x++y) (st.pairs.map (·.key));rw[xlm]at hle;have hlq:=w.lq;have hlen:=h3.v.q1M he;rw[xlm]at hlen;have key:∀k (hlt:k<st.pairs.length),q0c st.pairs[k].key (x++y)=(q0c st.pairs[k].x x||(decide (st.pairs[k].x=x)&&q0c st.pairs[k].y y)):=fun k hlt=>by
  have:=q1s w (w.okq st.pairs[k] (List.getElem_mem hlt)).2.2.2.2.1;unfold q0D.key;rw[q2I (by omega)]
 intro d;induction d with
 |zero=>
  intro k hk;have:k=lb q0c (x++y) (st.pairs.map (·.key)):=by omega
  rw[<-this];by_cases hlt:k<st.pairs.length
  ·obtain⟨bb,o,_,x2,x3,_,_⟩:=h3.v.ixT he hs (i:=k) (by rw[xlm];exact hlt);have x4:=x3 0 (by omega);have x5:=x3 1 (by omega);rw[xgm]at x4 x5;have hat:=j34 (lt:=q0c) (k:=x++y) (ks:=st.pairs.map (·.key)) (by rw[xlm];omega);simp only[<-this,xgm]at hat;rw[key k hlt,Bool.or_eq_false_iff]at hat;simp only[ge,q0D.cells,xna]at x4 x5;by_cases hxx:st.pairs[k].x=x
   ·have h9:=hat.2;rw[dt hxx,Bool.true_and]at h9;simp only[q46 (H:=H22),T.z4W,p1,q1,p2,nnA,q0b,ifV,q0d,a3,hlen,dt (show (k:Int)<(st.pairs.length:Int) by omega),x2,x4,x5,hat.1,dt hxx,h9]
   ·simp only[q46 (H:=H22),T.z4W,p1,q1,p2,nnA,q0b,ifV,q0d,a3,hlen,dt (show (k:Int)<(st.pairs.length:Int) by omega),x2,x4,x5,hat.1,df hxx]
  ·simp only[q46 (H:=H22),T.z4W,p1,q1,p2,nnA,q0b,ifV,q0d,a3,hlen,df (show ¬(k:Int)<(st.pairs.length:Int) by omega)]
 |succ d ih=>
  intro k hk;have hlt:k<st.pairs.length:=by omega
  obtain⟨bb,o,_,x2,x3,_,_⟩:=h3.v.ixT he hs (i:=k) (by rw[xlm];exact hlt);have x4:=x3 0 (by omega);have x5:=x3 1 (by omega);rw[xgm]at x4 x5;have hbe:=q6u (lt:=q0c) (k:=x++y) (ks:=st.pairs.map (·.key)) (j:=k) (by rw[xlm];omega) (by omega);rw[xgm,key k hlt]at hbe;simp only[ge,q0D.cells,xna]at x4 x5;have nx:D22.gor 135173 [.ptr (some ⟨b,0⟩),.str x,.str y,t7,.int .i64 (k:Int)] m=D22.gor 135174 [.ptr (some ⟨b,0⟩),.str x,.str y,t7,.int .i64 ((lb q0c (x++y) (st.pairs.map (·.key)):Nat):Int)] m:=by
   simp only[j2y (H:=H22),T.a4i,p2,wp,show (k:Int)+1=((k+1:Nat):Int) by omega,wrap_i64 (n:=((k+1:Nat):Int)) (by omega) (by omega)];exact ih (k+1) (by omega)
  cases hxl:q0c st.pairs[k].x x with
  |true=>simp only[q46 (H:=H22),T.z4W,p1,q1,p2,nnA,q0b,ifV,q0d,a3,hlen,dt (show (k:Int)<(st.pairs.length:Int) by omega),x2,x4,x5,hxl,nx]
  |false=>
   rw[hxl,Bool.false_or,Bool.and_eq_true]at hbe;simp only[q46 (H:=H22),T.z4W,p1,q1,p2,nnA,q0b,ifV,q0d,a3,hlen,dt (show (k:Int)<(st.pairs.length:Int) by omega),x2,x4,x5,hxl,hbe.1,hbe.2,nx]
theorem a7t (h:q0G m b st F) (g:LGood st) (x y:List UInt8) {r:Wd} (hr:r.ok) (s:Int) :
  ∃m' F',run E22 (.fn 33) [.ptr (some ⟨b,0⟩),.str x,.str y,.agg (q0H r s)] m=some (.int .i64 (z2d st x y r s).1,m')/\q0G m' b (z2d st x y r s).2 F'/\Fr m m' F/\∀c,c∈F'->c∈F\/m.next<=c:=by
 have w:=g.w;have hF:=h.lt;obtain⟨M,hM⟩:∃M,M=m.lay (.cells (q0H r s) false):=⟨_,rfl⟩;have fM:Fr m M []:=by rw[hM];exact(Fr.refl m).lay _
 have hR:=h.q0k fM;have gx:=q9z (H:=H22) rfl hR (by have:=w.lp;omega) x M (Fr.refl _);have gy:=q9z (H:=H22) rfl hR (by have:=w.lp;omega) y M (Fr.refl _);have gq:=a7s (H:=H22) rfl hR (by have:=w.lq;omega) x y M (Fr.refl _);have rr:=q9A (H:=H22) rfl hr s M;have hD:M.get m.next=some (.cells (q0H r s) false):=by rw[hM];exact q0e _ _
 have lD:ldN M (.ptr (some ⟨m.next,0⟩)) 3=some (.agg (q0H r s)):=q0C hD rfl
 have done:∀v:AV,∃m' F',some (v,M)=some (v,m')/\q0G m' b st F'/\Fr m m' F/\∀c,c∈F'->c∈F\/m.next<=c:=fun v=>⟨M,F,rfl,hR,fM.any F,fun c hc=>.inl hc⟩
 have cm:=dt (show (-1:Int)<0 by omega);unfold z2d;rw[show q5n r s=q29 r s from rfl];simp only[q0H]at hM lD rr⊢;cases hx:q0Y q0c x (st.q0a.map (·.name)) with
 |false=>
  rw[z4o w hx]at gx;rw[LSt.q2E hx];rw[if_pos (.inl rfl)];simp only[q7Q (H:=H22) rfl,T.f33,p2,q0N,q0b,ifV,wp,AV.cells,AV.one,lcs,if_true,xom,<-hM,gx,cm];exact done _
 |true=>
  obtain⟨p,p1,p2,p3,p4⟩:=LSt.q1I hx;rw[q9w w hx]at gx;have cx:=df (show ¬((st.iP x:Nat):Int)<0 by omega);have sx:(st.q3k x).isSome=true:=by rw[p1];rfl
  cases hy:q0Y q0c y (st.q0a.map (·.name)) with
  |false=>
   rw[z4o w hy]at gy;rw[LSt.q2E hy,if_pos (.inr rfl)];simp only[q7Q (H:=H22) rfl,T.f33,q0N,q0b,ifV,wp,AV.cells,AV.one,lcs,if_true,xom,<-hM,gx,gy,cm,cx];exact done _
  |true=>
   obtain⟨p',p1',_⟩:=LSt.q1I hy;rw[q9w w hy]at gy;have cy:=df (show ¬((st.iP y:Nat):Int)<0 by omega);have sy:(st.q3k y).isSome=true:=by rw[p1'];rfl
   rw[if_neg (by rw[sx,sy];simp)];by_cases hxy:x=y
   ·rw[if_pos hxy];simp only[q7Q (H:=H22) rfl,T.f33,q0N,q0b,ifV,wp,AV.cells,AV.one,lcs,if_true,xom,<-hM,gx,gy,cx,cy];simp only[q6l (H:=H22),T.z8R,q0b,wp,dt hxy];exact done _
   ·rw[if_neg hxy];by_cases hz:q29 r s=0
    ·rw[if_neg (by simp[hz])];rw[hz]at rr;rw[a7n w sx sy]at gq;have hrr:q4B r s=true:=q5o hz;cases hq:q0Y q0c (x++y) (st.pairs.map (·.key)) with
     |true=>
      obtain⟨q,q1,q2,q3,q4⟩:=LSt.q5a hq;have l3:=w.okq q q4;have hxq:q.x=x/\q.y=y:=List.append_inj q2 (by rw[q1s w l3.2.2.2.2.1,q1s w sx]);have q3':st.pairs[st.iQ (x++y)]? = some q:=q3;rw[if_pos hq]at gq;obtain⟨sp,sq,sa,hb,_⟩:=hR.v;have a3:∀i:Nat,ld1 M (.ptr (some ⟨b,i⟩))=[sp,sq,sa,.int .u64 st.latest,.int .i64 st.most][i]?:=fun i=>q0f hb
      obtain⟨bb,m1,i1,i2,i3,i4,_,_⟩:=q0G.stQ hR hb (q':={q with x:=x,y:=y,rate:=r,q06:=s}) q3' (o:=2) (vs:=q0H r s) (by simp[q0H]) rfl (by simp[q0D.cells,q0H,hxq.1,hxq.2])
      refine⟨m1,F,?_,?_,(fM.any F).step i4 (fun c hc=>.inl hc),fun c hc=>.inl hc⟩
      ·simp only[q0H,List.length_cons,List.length_nil,xnz,Nat.reduceAdd]at i2;simp only[q7Q (H:=H22) rfl,T.f33,q0N,q0b,ifV,wp,AV.cells,AV.one,lcs,if_true,xom,<-hM,gx,gy,cx,cy];simp only[q6l (H:=H22),T.z8R,q0b,wp,df hxy];simp only[q8R (H:=H22),T.j2w,q0b,wp,lD,rr,decide_true,xbt];simp only[z3g (H:=H22),T.j8l,nnA,q0b,q0d,gq,dt (show (0:Int)<=((st.iQ (x++y):Nat):Int) by omega),a3,lD,i1,i2]
      ·rw[q1];show q0G m1 b (st.q4N _) F;have e:st.q4N {q with x:=x,y:=y,rate:=r,q06:=s}={st with pairs:=st.pairs.set (st.iQ (x++y)) {q with x:=x,y:=y,rate:=r,q06:=s}}:=by
        have hq':q0Y q0c (q0D.key {q with x:=x,y:=y,rate:=r,q06:=s}) (st.pairs.map (·.key))=true:=hq
        unfold LSt.q4N;rw[if_pos hq'];rfl
       rw[show (some q).getD q9N=q from rfl,e];exact i3
     |false=>
      rw[if_neg (by rw[hq];decide)]at gq;rw[LSt.q61 hq];obtain⟨sp,sq,sa,rp,rq,ra,h1,h2,h3,h4,h5,h6,h7,h8,h9,h10,eF⟩:=hR.ex;have a3:∀i:Nat,ld1 M (.ptr (some ⟨b,i⟩))=[sp,sq,sa,.int .u64 st.latest,.int .i64 st.most][i]?:=fun i=>q0f h1
      obtain⟨e,he,hs⟩:=uQ;obtain⟨k,hk'⟩:∃k,k=lb q0c (x++y) (st.pairs.map (·.key)):=⟨_,rfl⟩;have l0:=j4I hR w (q1s w sx) (y:=y) (.ptr (some ⟨m.next,0⟩)) k 0 (by omega)
      rw[<-hk']at l0;have hkl:k<=(st.pairs.map (·.cells)).length:=by rw[xlm,hk'];have:=q9i (lt:=q0c) (x++y) (st.pairs.map (·.key));rw[xlm]at this;exact this
      obtain⟨u1,u2⟩:=h3.upTo he hs hkl;obtain⟨v1,v2⟩:=h3.q7B he hs hkl;have hlq:=w.lq;obtain⟨s1,m1,s2,m2,s3,m3,rr3,q1,q2,q3,q4,f1,f2,f3,q5⟩:=z4b (w:=88) (by omega) h3 hkl u2 v2 (new:=(q0D.mk x y r s ⟨0,0⟩ ⟨0,0⟩).cells) rfl rfl (q04 (by rw[xlm];omega) (by decide));rw[<-q3u (·.cells) k (q0D.mk x y r s ⟨0,0⟩ ⟨0,0⟩)]at q4;obtain⟨m4,F',z1,z2,z3,z4⟩:=q0G.pairs h1 h2 h4 h5 h7 h9 f3 q4 q5
      obtain⟨_,pq⟩:=g.q4N (q:={q9N with x:=x,y:=y,rate:=r,q06:=s}) ⟨⟨hr,hrr,by simp[q9N,Wd.ok],by simp[q9N,Wd.ok],sx,sy⟩,hxy,by simp[q9N,Wd.val],by simp[q9N,Wd.val]⟩
      have pq':=pq hq;have e:st.q4N {q9N with x:=x,y:=y,rate:=r,q06:=s}={st with pairs:=q2Q k (q0D.mk x y r s ⟨0,0⟩ ⟨0,0⟩) st.pairs}:=by
       rw[hk'];show ({st with pairs:=(st.q4N {q9N with x:=x,y:=y,rate:=r,q06:=s}).pairs}:LSt)=_
       rw[pq'];rfl
      have a31:∀i:Nat,ld1 m1 (.ptr (some ⟨b,i⟩))=[sp,sq,sa,.int .u64 st.latest,.int .i64 st.most][i]?:=fun i=>q0f (f1.get h1 (by simp))
      have a32:∀i:Nat,ld1 m2 (.ptr (some ⟨b,i⟩))=[sp,sq,sa,.int .u64 st.latest,.int .i64 st.most][i]?:=fun i=>q0f (f2.get h1 (by simp))
      have a33:∀i:Nat,ld1 (m1.lay (.cells (q0D.mk x y r s ⟨0,0⟩ ⟨0,0⟩).cells false)) (.ptr (some ⟨b,i⟩))=[sp,sq,sa,.int .u64 st.latest,.int .i64 st.most][i]?:=fun i=>q0f ((f1.step0 ((Fr.refl m1).lay _)).get h1 (by simp))
      have lD1:ldN m1 (.ptr (some ⟨m.next,0⟩)) 3=some (.agg (q0H r s)):=q0C (f1.get hD (by simp)) rfl
      have nM:=fM.next
      refine⟨m4,F',?_,?_,(fM.any F).step z3 (fun c hc=>.inl (by rw[eF];simp only[xms]at hc;simp[hc])),fun c hc=>?_⟩
      ·have bs:=q4x (n:=9) (zs:=[.str [],.str [],.int .i64 0,.int .u64 0,.int .i64 0,.int .i64 0,.int .u64 0,.int .i64 0,.int .u64 0]) (cs:=(q0D.mk x y r s ⟨0,0⟩ ⟨0,0⟩).cells) rfl rfl rfl;simp only[q0D.cells]at bs q2 a33;simp only[q0H]at lD1;simp only[Int.natCast_zero]at l0;simp only[q7Q (H:=H22) rfl,T.f33,q0N,q0b,ifV,wp,AV.cells,AV.one,lcs,if_true,xom,<-hM,gx,gy,cx,cy]
       simp only[q6l (H:=H22),T.z8R,q0b,wp,df hxy];simp only[q8R (H:=H22),T.j2w,q0b,wp,lD,rr,decide_true,xbt];simp only[z3g (H:=H22),T.j8l,nnA,q0b,q0d,gq,df (show ¬(0:Int)<=-1 by omega)];simp only[j2x (H:=H22),T.a4h,wp,l0];simp only[j2z (H:=H22),T.a4j,q1,apE,q0n,AV.cells,Nat.reduceAdd,Nat.reduceLeDiff,nnA,a0P,a3,u1,lD,lD1,AV.one,lcs,bs,a33,q2,a32,v1,q3,z1]
      ·rw[show (none:Option q0D).getD q9N=q9N from rfl,e];exact z2
      ·rcases z4 c hc with h|h|h|h
       ·exact .inl (by rw[eF,h];simp)
       ·exact .inl (by rw[eF];simp[h])
       ·exact .inl (by rw[eF];simp[h])
       ·exact .inr (by omega)
    ·rw[if_pos hz];simp only[q7Q (H:=H22) rfl,T.f33,q0N,q0b,ifV,wp,AV.cells,AV.one,lcs,if_true,xom,<-hM,gx,gy,cx,cy];simp only[q6l (H:=H22),T.z8R,q0b,wp,df hxy];simp only[q8R (H:=H22),T.j2w,q1,q0b,wp,lD,rr,df hz,xbf];exact done _
end
end
section
open Go Go.Abs
theorem j91 {x y:Int} (k:Int) (hx:0<x) (hy:0<y):0<=z9O x y k:=by
 have h0:0<=x*y:=Int.mul_nonneg (by omega) (by omega);unfold z9O;split
 ·unfold scF;rw[df (show ¬x<0 by omega),df (show ¬y<0 by omega),if_neg (by decide)];have e1:q1F x=x:=if_neg (by omega);have e2:q1F y=y:=if_neg (by omega);rw[e1,e2];exact j6u h0 k.toNat
 ·have t0:=q3I (-k).toNat;exact Int.mul_nonneg h0 (by omega)
theorem z6B {w:Wd} {s:Int} {v:Wd} {t n:Int} (h:(q2o w s v t n).2.2=0):0<=(q2o w s v t n).1.val:=by
 unfold q2o at h⊢;split
 ·split
  ·split
   ·rename_i h2 h3;have:=j91 (s+t-n) h2 (q74 h3).2;split
    ·rw[Wd.q1t];exact this
    ·simp[Wd.val]
   ·simp[Wd.val]
  ·simp[Wd.val]
 ·simp[Wd.val]
theorem q9Y {st:LSt} (g:q3j st) (i j:Int) (x:Wd) (s:Int):q3j (q2r st i j x s).2.2.2:=by
 unfold q2r;rcases LSt.q1D g.w i with ⟨e,_⟩|⟨a,p,e,ga,gp,hid,hka,hpn,hkp,ma,mp⟩
 ·rw[e];exact g
 ·rcases LSt.q1D g.w j with ⟨e',_⟩|⟨a',p',e',ga',gp',hid',hka',hpn',hkp',ma',mp'⟩
  ·rw[e,e'];exact g
  ·rw[e,e'];simp only[ne_eq,not_true_eq_false,if_false];split
   ·exact g
   rename_i hnn;cases hq:st.z9i (p.name++p'.name) with
   |none=>exact g
   |some q=>
    simp only;unfold z6A;split
    ·exact g
    split
    ·exact g
    dsimp only;split
    ·exact g
    split
    ·exact g
    rename_i h1 h2 h3 h4;have hf:q2t p x s=0:=by simpa using h1
    have hx:=(q4Y hf).2;have h3':(q2o x s q.rate q.q06 p'.scale).2.2=0:=by simpa using h3
    have hg:=z6B h3';obtain⟨gw,hgw⟩:∃gw,gw=(q2o x s q.rate q.q06 p'.scale).1:=⟨_,rfl⟩;rw[<-hgw]at h4 hg⊢;have f1:q3Y a.bal q.inx x=true:=by cases h:q3Y a.bal q.inx x with|true=>rfl|false=>exact absurd (.inl h) h4
    have f2:q3Y q.q1H a'.bal gw=true:=by cases h:q3Y q.q1H a'.bal gw with|true=>rfl|false=>exact absurd (.inr h) h4
    obtain⟨f3,f4⟩:=q4X f1;obtain⟨f5,f6⟩:=q4X f2;have hij:i≠j:=fun h=>hnn (by rw[h,e']at e;cases e;rfl)
    obtain⟨l1,l2⟩:=g.toLGood.a7u ga ga' hij (Wd.q3y f3) (Wd.q3y f6) (by rw[Wd.q1t];omega) (by rw[Wd.q1t];have:=(g.a1 a' ma').2;omega);obtain⟨q1,q2,q3⟩:=LSt.z1U hq;have mq:=List.mem_of_getElem? q2;have l3:=g.w.okq q mq;have l4:=g.q1 q mq;have np:q3x p.name=true:=(g.w.okp p mp).2.2.2;have hxy:q.x=p.name/\q.y=p'.name:=List.append_inj q1 (by rw[q1s g.w l3.2.2.2.2.1,z0R np])
    obtain⟨l5,_⟩:=l1.q4N (q:={q with inx:=Wd.of (q.inx.val+x.val),q1H:=Wd.of (q.q1H.val-gw.val)}) ⟨⟨l3.1,l3.2.1,Wd.q3y f4,Wd.q3y f5,l3.2.2.2.2.1,l3.2.2.2.2.2⟩,l4.1,by rw[Wd.q1t];omega,by rw[Wd.q1t];omega⟩
    refine {toLGood:=l5,su:=?_};have hk:q0Y q0c q.key (st.pairs.map (·.key))=true:=by rw[q1];exact q3
    refine g.q7p fun k=>?_
    show sA k ((st.q14 {a with bal:=Wd.of (a.bal.val-x.val)}).q14 {a' with bal:=Wd.of (a'.bal.val+gw.val)}).q0j+sQ k (if q0Y q0c q.key (st.pairs.map (·.key))=true then _ else _)=_
    rw[if_pos hk];show _+sQ k (st.pairs.set (st.iQ q.key) _)=_;rw[j6v q2 (q':={q with inx:=Wd.of (q.inx.val+x.val),q1H:=Wd.of (q.q1H.val-gw.val)}) rfl rfl,l2]
    simp only[Wd.q1t,hxy.1,hxy.2,<-hpn,<-hpn'];split<;>split<;>omega
end
end Go.Proofs.YtlginbmjiecglaaGreatDoor
