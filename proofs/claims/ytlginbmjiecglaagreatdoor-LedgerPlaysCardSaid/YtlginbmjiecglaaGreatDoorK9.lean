/- Texts of one claim, put together. -/
import Derived.Test.YtlginbmjiecglaaGreatDoorK7
namespace Go.Abs
noncomputable section
open Go
inductive CM where
 |ret (v:AV)
 |fail
 |resC (P:Program) (rs:List ResultVar) (vs:List AV)
 |pu (e:Option AV) (K:AV->CM)
 |rm (e:Mem->Option AV) (K:AV->CM)
 |al (e:Option (Blk×(Nat->AV))) (K:AV->CM)
 |ef (e:Mem->R) (K:AV->CM)
 |st (e:Mem->Option Mem) (K:CM)
 |call (f:Nat) (az:List AV) (K:AV->CM)
 |callv (fv:AV) (az:List AV) (K:AV->CM)
 |ifv (v:AV) (x y:CM)
 |cond (v:AV) (x y:CM)
 |memo (K:Mem->CM)
 |chk (e:Option AV) (v:AV) (K:CM)
 |go (key:Nat) (ts:List AV)
 |rng (md:Md) (fv:AV) (l:q89) (key:Nat) (ts:List AV)
structure Do where
 call:q09
 gor:Nat->List AV->Mem->R
 afr:Nat->Option Jmp->List AV->Mem->R
def q7u {α:Type} (e:Option α) (K:α->R):R:=Option.rec (motive:=fun _=>R) none K e
def q0j (d:Do) (c:CM):Mem->R:=
 CM.rec (motive:=fun _=>Mem->R)
  (fun v m=>some (v,m))
  (fun _=>none)
  (fun P rs vs m=>Option.rec (motive:=fun _=>R) none (fun vs=>some (q0I vs,m)) (q0H P rs vs m))
  (fun e _ ih m=>Option.rec (motive:=fun _=>R) none (fun v=>ih v m) e)
  (fun e _ ih m=>Option.rec (motive:=fun _=>R) none (fun v=>ih v m) (e m))
  (fun e _ ih m=>Option.rec (motive:=fun _=>R) none (fun c=>ih (c.2 m.next) (m.lay c.1)) e)
  (fun e _ ih m=>Option.rec (motive:=fun _=>R) none (fun r=>ih r.1 r.2) (e m))
  (fun e _ ih m=>Option.rec (motive:=fun _=>R) none (fun m=>ih m) (e m))
  (fun f az _ ih m=>Option.rec (motive:=fun _=>R) none (fun r=>ih r.1 r.2) (d.call (.fn f) az m))
  (fun fv az _ ih m=>Option.rec (motive:=fun _=>R) none (fun r=>ih r.1 r.2) (q3T d.call fv az m))
  (fun v _ _ x y m=>ifV v (x m) (y m))
  (fun v _ _ x y m=>q0a v (x m) (y m))
  (fun _ ih m=>ih m m)
  (fun e v _ ih m=>if e=some v then ih m else none)
  (fun k ts m=>d.gor k ts m)
  (fun md fv l k ts m=>q1K d.call md fv l m fun j m=>d.afr k j ts m)
  c
section
variable {d:Do} {m:Mem}
theorem z7p (v:AV):q0j d (.ret v) m=some (v,m):=rfl
theorem z3t (P:Program) (rs:List ResultVar) (vs:List AV):q0j d (.resC P rs vs) m=(q0H P rs vs m).bind fun vs=>some (q0I vs,m):=by
 cases h:q0H P rs vs m<;>simp[q0j,h]
theorem j1y (e:Option AV) (K:AV->CM):q0j d (.pu e K) m=e.bind fun v=>q0j d (K v) m:=by cases e<;>rfl
theorem j1z (e:Mem->Option AV) (K:AV->CM):q0j d (.rm e K) m=(e m).bind fun v=>q0j d (K v) m:=by
 show Option.rec (motive:=fun _=>R) none (fun v=>q0j d (K v) m) (e m)=_
 cases e m<;>rfl
theorem j1v (e:Option (Blk×(Nat->AV))) (K:AV->CM):q0j d (.al e K) m=e.bind fun c=>q0j d (K (c.2 m.next)) (m.lay c.1):=by cases e<;>rfl
theorem j1w (e:Mem->R) (K:AV->CM):q0j d (.ef e K) m=(e m).bind fun r=>q0j d (K r.1) r.2:=by
 show Option.rec (motive:=fun _=>R) none (fun r=>q0j d (K r.1) r.2) (e m)=_
 cases e m<;>rfl
theorem j1A (e:Mem->Option Mem) (K:CM):q0j d (.st e K) m=(e m).bind fun m=>q0j d K m:=by
 show Option.rec (motive:=fun _=>R) none (fun m=>q0j d K m) (e m)=_
 cases e m<;>rfl
theorem z3q (f:Nat) (az:List AV) (K:AV->CM):q0j d (.call f az K) m=(d.call (.fn f) az m).bind fun r=>q0j d (K r.1) r.2:=by
 show Option.rec (motive:=fun _=>R) none (fun r=>q0j d (K r.1) r.2) (d.call (.fn f) az m)=_
 cases d.call (.fn f) az m<;>rfl
theorem z1G (fv:AV) (az:List AV) (K:AV->CM):q0j d (.callv fv az K) m=(q3T d.call fv az m).bind fun r=>q0j d (K r.1) r.2:=by
 show Option.rec (motive:=fun _=>R) none (fun r=>q0j d (K r.1) r.2) (q3T d.call fv az m)=_
 cases q3T d.call fv az m<;>rfl
theorem z7o (v:AV) (x y:CM):q0j d (.ifv v x y) m=ifV v (q0j d x m) (q0j d y m):=rfl
theorem z3r (v:AV) (x y:CM):q0j d (.cond v x y) m=q0a v (q0j d x m) (q0j d y m):=rfl
theorem z3s (K:Mem->CM):q0j d (.memo K) m=q0j d (K m) m:=rfl
theorem z7n (e:Option AV) (v:AV) (K:CM):q0j d (.chk e v K) m=if e=some v then q0j d K m else none:=rfl
theorem j1x (k:Nat) (ts:List AV):q0j d (.go k ts) m=d.gor k ts m:=rfl
theorem z7q (md:Md) (fv:AV) (l:q89) (k:Nat) (ts:List AV):q0j d (.rng md fv l k ts) m=q1K d.call md fv l m fun j m=>d.afr k j ts m:=rfl
end
theorem Le.q7u {α:Type} {f g:Option α} {F G:α->R} (h:Le f g) (hF:∀x,Le (F x) (G x)):Le (q7u f F) (q7u g G):=by
 have e:∀(o:Option α) (K:α->R),Abs.q7u o K=o.bind K:=fun o K=>by cases o<;>rfl
 rw[e,e];exact h.bind hF
abbrev p1 {α:Type} (F:α->Option AV) (x:α):Option AV:=(some x).bind F
abbrev p2 (F:AV->AV->Option AV) (x y:AV):Option AV:=(some x).bind fun a=>(some y).bind fun b=>F a b
abbrev p3 (F:AV->AV->AV->Option AV) (x y z:AV):Option AV:=(some x).bind fun a=>(some y).bind fun b=>(some z).bind fun c=>F a b c
abbrev q1 (F:AV->Mem->Option AV) (x:AV) (m:Mem):Option AV:=(some x).bind fun a=>F a m
abbrev q2 (F:AV->AV->Mem->Option AV) (x y:AV) (m:Mem):Option AV:=(some x).bind fun a=>(some y).bind fun b=>F a b m
abbrev apE (k w:Nat) (s x:AV) (m:Mem):R:=(some (k,w)).bind fun nw=>q0X nw.1 nw.2 s x m
structure Do.Le (d e:Do):Prop where
 call:∀t az m,Abs.Le (d.call t az m) (e.call t az m)
 gor:∀k ts m,Abs.Le (d.gor k ts m) (e.gor k ts m)
 afr:∀k j ts m,Abs.Le (d.afr k j ts m) (e.afr k j ts m)
theorem Le.q1K {c c':q09} (h:∀f a m,Le (c f a m) (c' f a m)) (md:Md) (fv:AV) (l:q89) (m:Mem) {go go':Option Jmp->Mem->R} (hg:∀j m,Le (go j m) (go' j m)) :
  Le (Abs.q1K c md fv l m go) (Abs.q1K c' md fv l m go'):=by
 unfold Abs.q1K;split
 ·split
  ·refine .bind (h _ _ _) fun r=>?_
   unfold q1C;split
   ·split
    ·exact .none _
    ·exact hg _ _
   ·exact .none _
  ·exact .none _
 ·exact .none _
theorem q7V {d e:Do} (h:d.Le e) (c:CM):∀m,Le (q0j d c m) (q0j e c m):=by
 induction c with
 |ret _|fail|resC _ _ _=>exact fun m=>.refl _
 |pu _ _ ih=>exact fun m=>Le.q7u (.refl _) fun v=>ih v m
 |rm _ _ ih=>exact fun m=>Le.q7u (.refl _) fun v=>ih v m
 |al _ _ ih=>exact fun m=>Le.q7u (.refl _) fun v=>ih _ _
 |ef _ _ ih=>exact fun m=>Le.q7u (.refl _) fun v=>ih _ _
 |st _ _ ih=>exact fun m=>Le.q7u (.refl _) fun v=>ih _
 |call _ _ _ ih=>exact fun m=>Le.q7u (h.call _ _ _) fun v=>ih _ _
 |callv fv az _ ih=>
  intro m;refine Le.q7u ?_ fun v=>ih _ _
  unfold q3T;split
  ·exact h.call _ _ _
  ·exact h.call _ _ _
  ·exact .none _
 |ifv v _ _ x y=>
  intro m;show Le (ifV v _ _) (ifV v _ _);unfold ifV;split
  ·exact x m
  ·exact y m
  ·exact .none _
 |cond v _ _ x y=>
  intro m;show Le (q0a v _ _) (q0a v _ _);unfold q0a;split
  ·exact x m
  ·exact y m
  ·exact .none _
 |memo _ ih=>exact fun m=>ih m m
 |chk e v _ ih=>
  intro m;show Le (if e=some v then _ else _) (if e=some v then _ else _)
  split
  ·exact ih m
  ·exact .none _
 |go _ _=>exact fun m=>h.gor _ _ _
 |rng md fv l k ts=>exact fun m=>Le.q1K h.call _ _ _ _ fun j m=>h.afr _ _ _ _
def spread:List Bool->List AV->List AV
 |true::bs,v::vs=>v::spread bs vs
 |true::bs,[]=>.undef::spread bs []
 |false::bs,vs=>.undef::spread bs vs
 |[],_=>[]
def bM (n x:Nat):List Bool:=(List.range n).map (Nat.testBit x)
def goR (E:Env) (M:Nat->List Bool) (k:Nat) (ts:List AV) (m:Mem):R:=q8o E (k / 4096) (k % 4096) (spread (M k) ts) m
def afR (E:Env) (M:Nat->List Bool) (k:Nat) (j:Option Jmp) (ts:List AV) (m:Mem):R:=z8v E (k / 4096) (k % 4096) j (spread (M k) ts) m
def real (E:Env) (M N:Nat->List Bool):Do:=⟨run E,goR E M,afR E N⟩
theorem q2b {E:Env} {M:Nat->List Bool} {k:Nat} (n:Nat) {ts:List AV} {m:Mem} {r:R}
  (h:goC E (run E) (.fn (q1x E (k / 4096))) (go E (.fn (q1x E (k / 4096)))) n (kAt E (k / 4096) (k % 4096)) (spread (M k) ts) m=r):goR E M k ts m=r:=q1r n h
theorem z8u {E:Env} {M:Nat->List Bool} {k:Nat} {j:Option Jmp} (n:Nat) {ts:List AV} {m:Mem} {r:R}
  (h:goC E (run E) (.fn (q1x E (k / 4096))) (go E (.fn (q1x E (k / 4096)))) n (pend j (a2G E (k / 4096) (k % 4096))) (spread (M k) ts) m=r):afR E M k j ts m=r:=z6I n h
def apS (F:AV->List AV->CM) (l:List AV):CM:=List.rec (motive:=fun _=>CM) .fail (fun a l _=>F a l) l
def ap0 (c:CM) (l:List AV):CM:=List.rec (motive:=fun _=>CM) c (fun _ _ _=>.fail) l
theorem j28 (F:AV->List AV->CM) (a:AV) (l:List AV):apS F (a::l)=F a l:=rfl
theorem j80 (c:CM):ap0 c []=c:=rfl
def LeD (d:Do) (D:List AV->CM) (g:List AV->Mem->R):Prop:=∀l m,Le (q0j d (D l) m) (g l m)
def EqD (d:Do) (D:List AV->CM) (g:List AV->Mem->R):Prop:=∀l m,g l m=q0j d (D l) m\/D l=.fail
theorem sE {d:Do} {F:AV->List AV->CM} {g:List AV->Mem->R} (h:∀a,EqD d (F a) fun l=>g (a::l)):EqD d (apS F) g:=fun l m=>by
 cases l with
 |nil=>exact .inr rfl
 |cons a l=>exact h a l m
theorem zE {d:Do} {c:CM} {g:List AV->Mem->R} (h:∀m,g [] m=q0j d c m):EqD d (ap0 c) g:=fun l m=>by
 cases l with
 |nil=>exact .inl (h m)
 |cons a l=>exact .inr rfl
theorem EqD.le {d:Do} {D:List AV->CM} {g:List AV->Mem->R} (h:EqD d D g):LeD d D g:=fun l m=>by
 cases h l m with
 |inl e=>rw[e];exact .refl _
 |inr e=>rw[e];exact .none _
theorem all_nil {α:Type} {p:α->Prop}:∀x∈([]:List α),p x:=fun _ h=>by simp at h
theorem all_cons {α:Type} {p:α->Prop} {a:α} {l:List α} (h:p a) (h':∀x∈l,p x):∀x∈a::l,p x:=fun x hx=>by
 cases hx with
 |head=>exact h
 |tail _ hx=>exact h' x hx
def pB (b:Nat):AV:=.ptr (some ⟨b,0⟩)
def sB (n len:Nat) (b:Nat):AV:=.sl (some ⟨b,0⟩) n len len true
inductive BT (α:Type) where
 |leaf
 |node (k:Nat) (v:α) (l r:BT α)
def BT.find {α:Type} (t:BT α) (q:Nat):Option α:=
 BT.rec (motive:=fun _=>Option α) none (fun k v _ _ l r=>Bool.rec (motive:=fun _=>Option α) (Bool.rec (motive:=fun _=>Option α) r l (Nat.ble q k)) (some v) (Nat.beq q k)) t
def BT.All {α:Type} (Q:Nat->α->Prop):BT α->Prop
 | .leaf=>True
 | .node k v l r=>Q k v/\l.All Q/\r.All Q
theorem BT.q5n {α:Type} {Q:Nat->α->Prop} {q:Nat} {v:α}:∀{t:BT α},t.All Q->t.find q=some v->Q q v
 | .leaf,_,h=>by simp[BT.find]at h
 | .node k w l r,ha,h=>by
  have hu:(BT.node k w l r).find q=Bool.rec (motive:=fun _=>Option α) (Bool.rec (motive:=fun _=>Option α) (r.find q) (l.find q) (Nat.ble q k)) (some w) (Nat.beq q k):=rfl
  rw[hu]at h;cases e:Nat.beq q k with
  |true=>
   rw[e]at h;cases h;have:=Nat.eq_of_beq_eq_true e;subst this;exact ha.1
  |false=>
   rw[e]at h;cases e2:Nat.ble q k with
   |true=>rw[e2]at h;exact BT.q5n ha.2.1 h
   |false=>rw[e2]at h;exact BT.q5n ha.2.2 h
structure Tb where
 fn:BT (List AV->CM)
 gor:BT (List AV->CM)
 afr:BT ((List AV->CM)×(List AV->CM)×List (Nat×(List AV->CM)))
def j2i (id:Nat):List (Nat×(List AV->CM))->Option (List AV->CM)
 |[]=>none
 |(i,D)::l=>if Nat.beq id i=true then some D else j2i id l
def z7E (t:(List AV->CM)×(List AV->CM)×List (Nat×(List AV->CM))):Option Jmp->Option (List AV->CM)
 |none=>some t.1
 |some .ret=>some t.2.1
 |some (.exit id)=>j2i id t.2.2
structure Tb.Ok (T:Tb) (E:Env) (M N:Nat->List Bool):Prop where
 fn:T.fn.All fun f D=>LeD (real E M N) D fun az m=>run E (.fn f) az m
 gor:T.gor.All fun k D=>LeD (real E M N) D fun ts m=>goR E M k ts m
 afr:T.afr.All fun k t=>LeD (real E M N) t.1 (fun ts m=>afR E N k none ts m)/\LeD (real E M N) t.2.1 (fun ts m=>afR E N k (some .ret) ts m)/\
  ∀iD∈t.2.2,LeD (real E M N) iD.2 fun ts m=>afR E N k (some (.exit iD.1)) ts m
def j6J (E:Env) (call:q09) (n:Nat) (f:Nat) (az:List AV) (m:Mem):R:=
 match E.H f with
 |some h=>h az m
 |none=>match E.B f with
  |some (rs,nt,c)=>goF E call (.fn rs) n [.code c] (az++List.replicate (nt-az.length) .undef) m
  |none=>none
def a3E (E:Env) (call:q09) (n:Nat) (b:Nat) (az:List AV) (m:Mem):R:=q3p m b az fun k t=>goF E call (.rd b) n k t m
def b1r (E:Env) (T:Tb) (n:Nat) (d:Do):Do where
 call t az m:=Tg.rec (motive:=fun _=>R) (fun f=>Option.rec (motive:=fun _=>R) (j6J E d.call n f az m) (fun D=>q0j d (D az) m) (T.fn.find f)) (fun b=>a3E E d.call n b az m) t
 gor k ts m:=Option.rec (motive:=fun _=>R) none (fun D=>q0j d (D ts) m) (T.gor.find k)
 afr k j ts m:=((T.afr.find k).bind fun t=>z7E t j).bind fun D=>q0j d (D ts) m
def XD (E:Env) (T:Tb) (n:Nat):Do:=Nat.rec (motive:=fun _=>Do) ⟨fun _ _ _=>none,fun _ _ _=>none,fun _ _ _ _=>none⟩ (fun n d=>b1r E T n d) n
theorem Le.q2j {E:Env} {c c':q09} (h:∀f a m,Le (c f a m) (c' f a m)) {κ κ':List AI->List AV->Mem->R} (hκ:∀k t m,Le (κ k t m) (κ' k t m)) (md:Md) (k:List AI) (t:List AV) (m:Mem) :
  Le (Abs.q2j E c md k t m κ) (Abs.q2j E c' md k t m κ'):=by
 have hl:Lim (fun n=>Abs.q2j E (if n=0 then c else c') md k t m (if n=0 then κ else κ')) (Abs.q2j E c' md k t m κ'):=by
  refine Lim.q2j (call:=fun n=>if n=0 then c else c') (κ:=fun n=>if n=0 then κ else κ') ?_ md k t m ?_
  ·intro f a m;refine⟨fun n=>?_,fun r hr=>⟨1,fun n hn=>?_⟩⟩
   ·by_cases e:n=0
    ·simp only[e,if_true];exact h _ _ _
    ·simp only[e,if_false];exact .refl _
   ·simp only[show n≠0 by omega,if_false];exact hr
  ·intro k t m;refine⟨fun n=>?_,fun r hr=>⟨1,fun n hn=>?_⟩⟩
   ·by_cases e:n=0
    ·simp only[e,if_true];exact hκ _ _ _
    ·simp only[e,if_false];exact .refl _
   ·simp only[show n≠0 by omega,if_false];exact hr
 exact hl.1 0
theorem Le.goF {E:Env} {call:q09} (h:∀f a m,Le (call f a m) (run E f a m)) (md:Md):∀(n:Nat) k t m,Le (Abs.goF E call md n k t m) (go E md k t m)
 | 0,_,_,_=>.none _
 |n+1,k,t,m=>by rw[go_step];exact Le.q2j h (fun k t m=>Le.goF h md n k t m) md k t m
theorem j6K {E:Env} {call:q09} (h:∀f a m,Le (call f a m) (run E f a m)) (n f:Nat) (az:List AV) (m:Mem):Le (j6J E call n f az m) (run E (.fn f) az m):=by
 unfold j6J;split
 ·rename_i hH;rw[q08 hH];exact .refl _
 ·rename_i hH;split
  ·rename_i hB;rw[z6s hH hB];exact Le.goF h _ _ _ _ _
  ·exact .none _
theorem j6L {E:Env} {call:q09} (h:∀f a m,Le (call f a m) (run E f a m)) (n b:Nat) (az:List AV) (m:Mem):Le (a3E E call n b az m) (run E (.yl b) az m):=by
 unfold a3E;rw[z2g];unfold q3p;split
 ·split
  ·exact Le.goF h _ _ _ _ _
  ·exact .none _
 ·exact .none _
theorem z1X {id:Nat} {D:List AV->CM}:∀{l:List (Nat×(List AV->CM))},j2i id l=some D->(id,D)∈l
 |[],h=>by simp[j2i]at h
 |(i,D')::l,h=>by
  simp only[j2i]at h;split at h
  ·rename_i e;cases h;rw[Nat.eq_of_beq_eq_true e];exact xmc
  ·exact List.mem_cons_of_mem _ (z1X h)
theorem a4s {E:Env} {T:Tb} {M N:Nat->List Bool} (ok:T.Ok E M N):∀n,(XD E T n).Le (real E M N)
 | 0=>⟨fun _ _ _=>.none _,fun _ _ _=>.none _,fun _ _ _ _=>.none _⟩
 |n+1=>by
  have ih:=a4s ok n;refine⟨fun t az m=>?_,fun k ts m=>?_,fun k j ts m=>?_⟩
  ·cases t with
   |fn f=>
    show Le (Option.rec (motive:=fun _=>R) (j6J E (XD E T n).call n f az m) (fun D=>q0j (XD E T n) (D az) m) (T.fn.find f)) (run E (.fn f) az m)
    cases e:T.fn.find f with
    |none=>exact j6K ih.call _ _ _ _
    |some D=>exact(q7V ih _ _).trans (BT.q5n ok.fn e az m)
   |yl b=>exact j6L ih.call _ _ _ _
  ·show Le (Option.rec (motive:=fun _=>R) none (fun D=>q0j (XD E T n) (D ts) m) (T.gor.find k)) (goR E M k ts m)
   cases e:T.gor.find k with
   |none=>exact .none _
   |some D=>exact(q7V ih _ _).trans (BT.q5n ok.gor e ts m)
  ·show Le (((T.afr.find k).bind fun t=>z7E t j).bind fun D=>q0j (XD E T n) (D ts) m) (afR E N k j ts m)
   cases e:T.afr.find k with
   |none=>exact .none _
   |some t=>
    have hk:=BT.q5n ok.afr e;simp only[Option.bind_some];cases e2:z7E t j with
    |none=>exact .none _
    |some D=>
     refine(q7V ih _ _).trans ?_;cases j with
     |none=>simp only[z7E,xoi]at e2;subst e2;exact hk.1 ts m
     |some j=>
      cases j with
      |ret=>simp only[z7E,xoi]at e2;subst e2;exact hk.2.1 ts m
      |exit id=>simp only[z7E]at e2;exact hk.2.2 _ (z1X e2) ts m
theorem j6B {E:Env} {T:Tb} {M N:Nat->List Bool} (ok:T.Ok E M N) (n:Nat) {t:Tg} {az:List AV} {m:Mem} {r:AV×Mem} (h:(XD E T n).call t az m=some r):run E t az m=some r:=
 (a4s ok n).call t az m r h
end
end Go.Abs
namespace Go.Proofs.YtlginbmjiecglaaGreatDoor.T
section
open Go Go.Abs Go.Proofs.YtlginbmjiecglaaGreatDoor
set_option maxRecDepth 10000
noncomputable abbrev EH (H:FuncId->Option (List AV->Mem->R)):Env:=z7b Tryz.prog hints H
def nl (k a b:Nat):BT (List Bool):=.node k (bM a b) .leaf .leaf
def nd (k a b:Nat) (l r:BT (List Bool)):BT (List Bool):=.node k (bM a b) l r
def mt:BT (List Bool):=(nd 249858 50 897
(nd 118785 99 161
(nd 61441 94 44
(nd 49159 83 61572651155524
(nd 36867 125 48
(nd 20483 73 3332
(nd 20481 73 3332
(nl 20480 73 389) (nl 20482 73 3332)) (nd 36864 125 113
(nl 20484 73 1280) (nd 36865 125 113
.leaf (nl 36866 125 113)))) (nd 49154 83 939524164
(nd 49152 83 6
(nl 40960 14 1) (nl 49153 83 68)) (nd 49156 83 939524164
(nl 49155 83 939524164) (nd 49157 83 68
.leaf (nl 49158 83 61572651155524))))) (nd 57345 87 3758096388
(nd 49163 83 32281802128991715396
(nd 49161 83 68
(nl 49160 83 61572651155524) (nl 49162 83 32281802128991715396)) (nd 49165 83 68
(nl 49164 83 32281802128991715396) (nd 53248 75 2
.leaf (nl 57344 87 4)))) (nd 57350 87 528905046081400263933956
(nd 57347 87 3758096388
(nl 57346 87 3758096388) (nd 57348 87 4
.leaf (nl 57349 87 4))) (nd 57352 87 528905046081400263933956
(nl 57351 87 528905046081400263933956) (nd 57353 87 0
.leaf (nl 61440 94 12)))))) (nd 77824 73 5761
(nd 61450 94 140
(nd 61445 94 76
(nd 61443 94 44
(nl 61442 94 44) (nl 61444 94 12)) (nd 61447 94 76
(nl 61446 94 76) (nd 61448 94 12
.leaf (nl 61449 94 140)))) (nd 65539 55 140758963192461
(nd 61452 94 0
(nl 61451 94 140) (nd 65536 55 140754670846637
.leaf (nl 65538 55 140754668225165))) (nd 65542 55 175921860444684
(nl 65541 55 140737488355853) (nd 65544 55 12
.leaf (nl 69632 25 208))))) (nd 98305 73 24
(nd 81920 29 0
(nd 77826 73 6657
(nl 77825 73 6785) (nl 77827 73 2048)) (nd 90112 50 336
(nl 86016 50 336) (nd 94208 254 384
.leaf (nl 98304 73 25)))) (nd 110594 80 135
(nd 106496 33 12
(nl 98306 73 24) (nd 110592 80 7
.leaf (nl 110593 80 135))) (nd 114688 63 3
(nl 110595 80 135) (nd 114689 63 3
.leaf (nl 118784 99 161))))))) (nd 159744 60 0
(nd 139264 227 3457
(nd 131075 128 1665
(nd 126978 108 673
(nd 126976 108 161
(nl 118786 99 5761) (nl 126977 108 161)) (nd 131072 128 1665
(nl 126979 108 5761) (nd 131073 128 1665
.leaf (nl 131074 128 1665)))) (nd 135170 123 135
(nd 131077 128 22017
(nl 131076 128 1665) (nd 135168 123 135
.leaf (nl 135169 123 135))) (nd 135172 123 2183
(nl 135171 123 135) (nd 135173 123 2183
.leaf (nl 135174 123 2183))))) (nd 143362 21 9
(nd 139268 227 28033
(nd 139266 227 32129
(nl 139265 227 15745) (nl 139267 227 28033)) (nd 139270 227 5590401
(nl 139269 227 85377) (nd 143360 21 1
.leaf (nl 143361 21 9)))) (nd 147458 28 35
(nd 143364 21 0
(nl 143363 21 9) (nd 147456 28 35
.leaf (nl 147457 28 35))) (nd 151552 16 2
(nl 147459 28 0) (nd 151553 16 0
.leaf (nl 155648 37 1)))))) (nd 196608 43 906
(nd 184320 25 80
(nd 176128 62 3
(nd 167936 60 0
(nl 163840 60 0) (nl 172032 39 0)) (nd 180224 43 929
(nl 176129 62 3) (nd 180225 43 897
.leaf (nl 180226 43 512)))) (nd 192512 94 898
(nd 188417 23 9
(nl 188416 23 9) (nd 188418 23 9
.leaf (nl 188419 23 1))) (nd 192514 94 946
(nl 192513 94 898) (nd 192515 94 898
.leaf (nl 192516 94 0))))) (nd 200708 54 7516192808
(nd 196612 43 2
(nd 196610 43 930
(nl 196609 43 906) (nl 196611 43 906)) (nd 200705 54 114732
(nl 200704 54 114732) (nd 200706 54 114732
.leaf (nl 200707 54 44)))) (nd 217088 36 177
(nd 200710 54 7516193320
(nl 200709 54 7516192808) (nd 200711 54 7516192808
.leaf (nl 200712 54 32))) (nd 233472 39 643
(nl 225280 16 0) (nd 249856 50 929
.leaf (nl 249857 50 929)))))))) (nd 475137 15 0
(nd 352257 54 451
(nd 290817 28 35
(nd 258053 124 337153
(nd 258048 124 93569
(nd 253952 76 135
(nl 249859 50 512) (nl 253953 76 135)) (nd 258050 124 341377
(nl 258049 124 95617) (nd 258051 124 341249
.leaf (nl 258052 124 341249)))) (nd 274433 48 323
(nd 266240 32 81
(nl 262144 42 81) (nd 270336 60 4416
.leaf (nl 274432 48 71))) (nd 282624 47 28
(nl 278528 45 60) (nd 282625 47 28
.leaf (nl 290816 28 35))))) (nd 315392 44 92
(nd 294913 31 0
(nd 290819 28 0
(nl 290818 28 35) (nl 294912 31 32)) (nd 311297 43 135
(nl 311296 43 135) (nd 311298 43 135
.leaf (nl 311299 43 0)))) (nd 331776 13 1
(nd 315394 44 92
(nl 315393 44 92) (nd 323584 13 1
.leaf (nl 327680 13 1))) (nd 335873 54 451
(nl 335872 54 451) (nd 335874 54 195
.leaf (nl 352256 54 451)))))) (nd 442368 28 81
(nd 385024 46 9
(nd 372737 19 1794
(nd 364544 28 81
(nl 352258 54 195) (nl 372736 19 1794)) (nd 372739 19 0
(nl 372738 19 1794) (nd 376832 11 0
.leaf (nl 380928 16 0)))) (nd 413697 24 1798
(nd 397313 24 1798
(nl 397312 24 1798) (nd 397314 24 1798
.leaf (nl 413696 24 1798))) (nd 430080 24 1798
(nl 413698 24 1798) (nd 430081 24 1798
.leaf (nl 430082 24 1798))))) (nd 458753 24 44
(nd 454656 29 252
(nd 450560 39 92
(nl 446464 28 81) (nl 450561 39 92)) (nd 454658 29 252
(nl 454657 29 252) (nd 454659 29 48
.leaf (nl 458752 24 44)))) (nd 462849 31 252
(nd 458755 24 44
(nl 458754 24 0) (nd 458756 24 0
.leaf (nl 462848 31 252))) (nd 462851 31 48
(nl 462850 31 252) (nd 466944 15 20
.leaf (nl 475136 15 32))))))) (nd 626694 42 48
(nd 606210 117 21080
(nd 552964 67 100
(nd 548866 67 580
(nd 548864 67 92
(nl 479232 44 92) (nl 548865 67 1604)) (nd 552961 67 22
(nl 552960 67 22) (nd 552962 67 22
.leaf (nl 552963 67 6)))) (nd 561153 57 84
(nd 552966 67 100
(nl 552965 67 100) (nd 557056 19 82
.leaf (nl 561152 57 22))) (nd 602113 26 12
(nl 602112 26 12) (nd 606208 117 92
.leaf (nl 606209 117 4696))))) (nd 622592 48 124
(nd 614400 22 84
(nd 606212 117 21080
(nl 606211 117 16984) (nl 606213 117 600)) (nd 618497 17 61
(nl 618496 17 61) (nd 618498 17 61
.leaf (nl 618499 17 12)))) (nd 626689 42 124
(nd 622594 48 124
(nl 622593 48 124) (nd 622595 48 48
.leaf (nl 626688 42 124))) (nd 626691 42 508
(nl 626690 42 508) (nd 626692 42 508
.leaf (nl 626693 42 124)))))) (nd 675843 127 65084
(nd 663555 11 8
(nd 655362 25 214
(nd 655360 25 214
(nl 651264 37 256) (nl 655361 25 214)) (nd 663552 11 9
(nl 655363 25 84) (nd 663553 11 9
.leaf (nl 663554 11 9)))) (nd 671747 24 21
(nd 671744 24 5
(nl 667648 23 25) (nd 671745 24 21
.leaf (nl 671746 24 21))) (nd 675840 127 60
(nl 671748 24 20) (nd 675841 127 65084
.leaf (nl 675842 127 65084))))) (nd 679942 135 509700
(nd 679937 135 7
(nd 675845 127 24628
(nl 675844 127 30780) (nl 679936 135 7)) (nd 679939 135 126724
(nl 679938 135 7) (nd 679940 135 126724
.leaf (nl 679941 135 61188)))) (nd 696321 47 70
(nd 679944 135 442628
(nl 679943 135 509700) (nd 684032 29 2
.leaf (nl 696320 47 70))) (nd 704512 25 5
(nl 696322 47 70) (nd 704513 25 5
.leaf (nl 704514 25 5)))))))))
def nt:BT (List Bool):=(nd 65537 55 140758963192461
(nl 65536 55 140754670846637) (nl 65538 55 175921860444684))
noncomputable def Mk (k:Nat):List Bool:=(mt.find k).getD []
noncomputable def Nk (k:Nat):List Bool:=(nt.find k).getD []
noncomputable abbrev Rl (H:FuncId->Option (List AV->Mem->R)):Do:=real (EH H) Mk Nk
noncomputable abbrev zl (t:TypeId) (p:AV) (K:AV->CM):CM:=CM.rm (q1 (q1E Tryz.prog t) p) K
noncomputable abbrev zf (t:TypeId) (f:Nat) (x:AV) (K:AV->CM):CM:=CM.pu (p1 (fun a=>q0i Tryz.prog t a f) x) K
noncomputable abbrev ze (f:Nat) (x:AV) (K:AV->CM):CM:=CM.pu (p1 (fun a=>q0d a f) x) K
noncomputable abbrev zb (op:BinOp) (t:TypeId) (x y:AV) (K:AV->CM):CM:=CM.pu (p2 (q0S Tryz.prog op t) x y) K
noncomputable abbrev zi (t:TypeId) (x y:AV) (K:AV->CM):CM:=CM.pu (p2 (q0N Tryz.prog t) x y) K
noncomputable abbrev zc (t u:TypeId) (x:AV) (K:AV->CM):CM:=CM.pu (p1 (q6O Tryz.prog t u) x) K
noncomputable abbrev zt (t:TypeId) (x:AV) (K:AV->CM):CM:=CM.pu (p1 (q2X Tryz.prog t) x) K
noncomputable abbrev zd (t:TypeId) (x:List (Nat×AV)) (K:AV->CM):CM:=CM.pu (p1 (q2v Tryz.prog t) x) K
noncomputable abbrev zu (x:AV) (K:AV->CM):CM:=CM.pu (p1 (unA .not) x) K
noncomputable abbrev zn (x:AV) (K:AV->CM):CM:=CM.pu (p1 nnA x) K
noncomputable abbrev zs (x v:AV) (n:Nat) (K:CM):CM:=CM.st (fun m=>stV m x v n) K
noncomputable abbrev za (l:List AV) (K:AV->CM):CM:=CM.al (some (.cells l false,pB)) K
noncomputable abbrev zo (x:AV) (K:AV->CM):CM:=CM.al (q0K x) K
noncomputable abbrev zx (t:TypeId) (p:AV) (m:Mem) (v:AV) (K:CM):CM:=CM.chk (q1 (q1E Tryz.prog t) p m) v K
noncomputable abbrev zr:=@CM.resC Tryz.prog
noncomputable abbrev zk:=@CM.call
noncomputable abbrev zC:=@CM.cond
noncomputable abbrev zI:=@CM.ifv
noncomputable abbrev zg:=@CM.go
noncomputable abbrev zR:=@CM.ret
noncomputable abbrev zm:=@CM.memo
def z0:AV:=.sl none 0 0 0 true
def z1:AV:=.int .i64 0
def z2:AV:=.int .u64 0
def z3:AV:=.str []
def z4:AV:=.int .i64 1
theorem zz0:z0=.sl none 0 0 0 true:=rfl
theorem zz1:z1=.int .i64 0:=rfl
theorem zz2:z2=.int .u64 0:=rfl
theorem zz3:z3=.str []:=rfl
theorem zz4:z4=.int .i64 1:=rfl
abbrev OkG (H:FuncId->Option (List AV->Mem->R)) (g:List AV->CM) (k:Nat):Prop:=EqD (Rl H) g (fun xs m=>goR (EH H) Mk k xs m)
abbrev OkF (H:FuncId->Option (List AV->Mem->R)) (g:List AV->CM) (k:Nat):Prop:=EqD (Rl H) g (fun xs m=>run (EH H) (.fn k) xs m)
section
variable {H:FuncId->Option (List AV->Mem->R)} {k:Nat}
noncomputable abbrev a0 (F:CM):List AV->CM:=ap0 F
theorem c0 {F:CM} (h:∀(m:Mem),goC (EH H) (run (EH H)) (.fn (q1x (EH H) (k / 4096))) (go (EH H) (.fn (q1x (EH H) (k / 4096)))) 400 (kAt (EH H) (k / 4096) (k % 4096)) (spread (Mk k) []) m=q0j (Rl H) F m):OkG H (a0 F) k:=zE fun _=>q2b 400 (h _)
theorem e0 {F:CM} (hH:H k=none) (hB:((EH H).B k).isSome=true) (h:∀(m:Mem),goC (EH H) (run (EH H)) (.fn (q1x (EH H) k)) (go (EH H) (.fn (q1x (EH H) k))) 400 [.code (codeOf (EH H) k)] ([]++List.replicate (z3C (EH H) k-List.length ([]:List AV)) .undef) m=q0j (Rl H) F m):OkF H (a0 F) k:=zE fun _=>run_eq 400 hH hB (h _)
abbrev IG0 (H:FuncId->Option (List AV->Mem->R)) (g:List AV->CM) (k:Nat):Prop:=∀(m:Mem),(Rl H).gor k [] m=q0j (Rl H) (g []) m
theorem gk0 {F:CM} (h:∀(m:Mem),goC (EH H) (run (EH H)) (.fn (q1x (EH H) (k / 4096))) (go (EH H) (.fn (q1x (EH H) (k / 4096)))) 400 (kAt (EH H) (k / 4096) (k % 4096)) (spread (Mk k) []) m=q0j (Rl H) F m):IG0 H (a0 F) k:=fun m=>q2b 400 (h m)
noncomputable abbrev a1 (F:AV->CM):List AV->CM:=apS fun u=>ap0 (F u)
theorem c1 {F:AV->CM} (h:∀(u:AV) (m:Mem),goC (EH H) (run (EH H)) (.fn (q1x (EH H) (k / 4096))) (go (EH H) (.fn (q1x (EH H) (k / 4096)))) 400 (kAt (EH H) (k / 4096) (k % 4096)) (spread (Mk k) [u]) m=q0j (Rl H) (F u) m):OkG H (a1 F) k:=sE fun _=>zE fun _=>q2b 400 (h _ _)
theorem e1 {F:AV->CM} (hH:H k=none) (hB:((EH H).B k).isSome=true) (h:∀(u:AV) (m:Mem),goC (EH H) (run (EH H)) (.fn (q1x (EH H) k)) (go (EH H) (.fn (q1x (EH H) k))) 400 [.code (codeOf (EH H) k)] ([u]++List.replicate (z3C (EH H) k-List.length ([u]:List AV)) .undef) m=q0j (Rl H) (F u) m):OkF H (a1 F) k:=sE fun _=>zE fun _=>run_eq 400 hH hB (h _ _)
abbrev IG1 (H:FuncId->Option (List AV->Mem->R)) (g:List AV->CM) (k:Nat):Prop:=∀(u:AV) (m:Mem),(Rl H).gor k [u] m=q0j (Rl H) (g [u]) m
abbrev IF1 (H:FuncId->Option (List AV->Mem->R)) (g:List AV->CM) (k:Nat):Prop:=∀(u:AV) (m:Mem),run (EH H) (.fn k) [u] m=q0j (Rl H) (g [u]) m
theorem gk1 {F:AV->CM} (h:∀(u:AV) (m:Mem),goC (EH H) (run (EH H)) (.fn (q1x (EH H) (k / 4096))) (go (EH H) (.fn (q1x (EH H) (k / 4096)))) 400 (kAt (EH H) (k / 4096) (k % 4096)) (spread (Mk k) [u]) m=q0j (Rl H) (F u) m):IG1 H (a1 F) k:=fun u m=>q2b 400 (h u m)
theorem fk1 {F:AV->CM} (hH:H k=none) (hB:((EH H).B k).isSome=true) (h:∀(u:AV) (m:Mem),goC (EH H) (run (EH H)) (.fn (q1x (EH H) k)) (go (EH H) (.fn (q1x (EH H) k))) 400 [.code (codeOf (EH H) k)] ([u]++List.replicate (z3C (EH H) k-List.length ([u]:List AV)) .undef) m=q0j (Rl H) (F u) m):IF1 H (a1 F) k:=fun u m=>run_eq 400 hH hB (h u m)
noncomputable abbrev a2 (F:AV->AV->CM):List AV->CM:=apS fun u=>apS fun v=>ap0 (F u v)
theorem c2 {F:AV->AV->CM} (h:∀(u v:AV) (m:Mem),goC (EH H) (run (EH H)) (.fn (q1x (EH H) (k / 4096))) (go (EH H) (.fn (q1x (EH H) (k / 4096)))) 400 (kAt (EH H) (k / 4096) (k % 4096)) (spread (Mk k) [u,v]) m=q0j (Rl H) (F u v) m):OkG H (a2 F) k:=sE fun _=>sE fun _=>zE fun _=>q2b 400 (h _ _ _)
theorem e2 {F:AV->AV->CM} (hH:H k=none) (hB:((EH H).B k).isSome=true) (h:∀(u v:AV) (m:Mem),goC (EH H) (run (EH H)) (.fn (q1x (EH H) k)) (go (EH H) (.fn (q1x (EH H) k))) 400 [.code (codeOf (EH H) k)] ([u,v]++List.replicate (z3C (EH H) k-List.length ([u,v]:List AV)) .undef) m=q0j (Rl H) (F u v) m):OkF H (a2 F) k:=sE fun _=>sE fun _=>zE fun _=>run_eq 400 hH hB (h _ _ _)
abbrev IG2 (H:FuncId->Option (List AV->Mem->R)) (g:List AV->CM) (k:Nat):Prop:=∀(u v:AV) (m:Mem),(Rl H).gor k [u,v] m=q0j (Rl H) (g [u,v]) m
abbrev IF2 (H:FuncId->Option (List AV->Mem->R)) (g:List AV->CM) (k:Nat):Prop:=∀(u v:AV) (m:Mem),run (EH H) (.fn k) [u,v] m=q0j (Rl H) (g [u,v]) m
theorem gk2 {F:AV->AV->CM} (h:∀(u v:AV) (m:Mem),goC (EH H) (run (EH H)) (.fn (q1x (EH H) (k / 4096))) (go (EH H) (.fn (q1x (EH H) (k / 4096)))) 400 (kAt (EH H) (k / 4096) (k % 4096)) (spread (Mk k) [u,v]) m=q0j (Rl H) (F u v) m):IG2 H (a2 F) k:=fun u v m=>q2b 400 (h u v m)
theorem fk2 {F:AV->AV->CM} (hH:H k=none) (hB:((EH H).B k).isSome=true) (h:∀(u v:AV) (m:Mem),goC (EH H) (run (EH H)) (.fn (q1x (EH H) k)) (go (EH H) (.fn (q1x (EH H) k))) 400 [.code (codeOf (EH H) k)] ([u,v]++List.replicate (z3C (EH H) k-List.length ([u,v]:List AV)) .undef) m=q0j (Rl H) (F u v) m):IF2 H (a2 F) k:=fun u v m=>run_eq 400 hH hB (h u v m)
noncomputable abbrev a3 (F:AV->AV->AV->CM):List AV->CM:=apS fun u=>apS fun v=>apS fun w=>ap0 (F u v w)
theorem c3 {F:AV->AV->AV->CM} (h:∀(u v w:AV) (m:Mem),goC (EH H) (run (EH H)) (.fn (q1x (EH H) (k / 4096))) (go (EH H) (.fn (q1x (EH H) (k / 4096)))) 400 (kAt (EH H) (k / 4096) (k % 4096)) (spread (Mk k) [u,v,w]) m=q0j (Rl H) (F u v w) m):OkG H (a3 F) k:=sE fun _=>sE fun _=>sE fun _=>zE fun _=>q2b 400 (h _ _ _ _)
theorem e3 {F:AV->AV->AV->CM} (hH:H k=none) (hB:((EH H).B k).isSome=true) (h:∀(u v w:AV) (m:Mem),goC (EH H) (run (EH H)) (.fn (q1x (EH H) k)) (go (EH H) (.fn (q1x (EH H) k))) 400 [.code (codeOf (EH H) k)] ([u,v,w]++List.replicate (z3C (EH H) k-List.length ([u,v,w]:List AV)) .undef) m=q0j (Rl H) (F u v w) m):OkF H (a3 F) k:=sE fun _=>sE fun _=>sE fun _=>zE fun _=>run_eq 400 hH hB (h _ _ _ _)
abbrev IG3 (H:FuncId->Option (List AV->Mem->R)) (g:List AV->CM) (k:Nat):Prop:=∀(u v w:AV) (m:Mem),(Rl H).gor k [u,v,w] m=q0j (Rl H) (g [u,v,w]) m
abbrev IF3 (H:FuncId->Option (List AV->Mem->R)) (g:List AV->CM) (k:Nat):Prop:=∀(u v w:AV) (m:Mem),run (EH H) (.fn k) [u,v,w] m=q0j (Rl H) (g [u,v,w]) m
theorem gk3 {F:AV->AV->AV->CM} (h:∀(u v w:AV) (m:Mem),goC (EH H) (run (EH H)) (.fn (q1x (EH H) (k / 4096))) (go (EH H) (.fn (q1x (EH H) (k / 4096)))) 400 (kAt (EH H) (k / 4096) (k % 4096)) (spread (Mk k) [u,v,w]) m=q0j (Rl H) (F u v w) m):IG3 H (a3 F) k:=fun u v w m=>q2b 400 (h u v w m)
theorem fk3 {F:AV->AV->AV->CM} (hH:H k=none) (hB:((EH H).B k).isSome=true) (h:∀(u v w:AV) (m:Mem),goC (EH H) (run (EH H)) (.fn (q1x (EH H) k)) (go (EH H) (.fn (q1x (EH H) k))) 400 [.code (codeOf (EH H) k)] ([u,v,w]++List.replicate (z3C (EH H) k-List.length ([u,v,w]:List AV)) .undef) m=q0j (Rl H) (F u v w) m):IF3 H (a3 F) k:=fun u v w m=>run_eq 400 hH hB (h u v w m)
noncomputable abbrev a4 (F:AV->AV->AV->AV->CM):List AV->CM:=apS fun u=>apS fun v=>apS fun w=>apS fun x=>ap0 (F u v w x)
theorem c4 {F:AV->AV->AV->AV->CM} (h:∀(u v w x:AV) (m:Mem),goC (EH H) (run (EH H)) (.fn (q1x (EH H) (k / 4096))) (go (EH H) (.fn (q1x (EH H) (k / 4096)))) 400 (kAt (EH H) (k / 4096) (k % 4096)) (spread (Mk k) [u,v,w,x]) m=q0j (Rl H) (F u v w x) m):OkG H (a4 F) k:=sE fun _=>sE fun _=>sE fun _=>sE fun _=>zE fun _=>q2b 400 (h _ _ _ _ _)
theorem e4 {F:AV->AV->AV->AV->CM} (hH:H k=none) (hB:((EH H).B k).isSome=true) (h:∀(u v w x:AV) (m:Mem),goC (EH H) (run (EH H)) (.fn (q1x (EH H) k)) (go (EH H) (.fn (q1x (EH H) k))) 400 [.code (codeOf (EH H) k)] ([u,v,w,x]++List.replicate (z3C (EH H) k-List.length ([u,v,w,x]:List AV)) .undef) m=q0j (Rl H) (F u v w x) m):OkF H (a4 F) k:=sE fun _=>sE fun _=>sE fun _=>sE fun _=>zE fun _=>run_eq 400 hH hB (h _ _ _ _ _)
abbrev IG4 (H:FuncId->Option (List AV->Mem->R)) (g:List AV->CM) (k:Nat):Prop:=∀(u v w x:AV) (m:Mem),(Rl H).gor k [u,v,w,x] m=q0j (Rl H) (g [u,v,w,x]) m
abbrev IF4 (H:FuncId->Option (List AV->Mem->R)) (g:List AV->CM) (k:Nat):Prop:=∀(u v w x:AV) (m:Mem),run (EH H) (.fn k) [u,v,w,x] m=q0j (Rl H) (g [u,v,w,x]) m
theorem gk4 {F:AV->AV->AV->AV->CM} (h:∀(u v w x:AV) (m:Mem),goC (EH H) (run (EH H)) (.fn (q1x (EH H) (k / 4096))) (go (EH H) (.fn (q1x (EH H) (k / 4096)))) 400 (kAt (EH H) (k / 4096) (k % 4096)) (spread (Mk k) [u,v,w,x]) m=q0j (Rl H) (F u v w x) m):IG4 H (a4 F) k:=fun u v w x m=>q2b 400 (h u v w x m)
theorem fk4 {F:AV->AV->AV->AV->CM} (hH:H k=none) (hB:((EH H).B k).isSome=true) (h:∀(u v w x:AV) (m:Mem),goC (EH H) (run (EH H)) (.fn (q1x (EH H) k)) (go (EH H) (.fn (q1x (EH H) k))) 400 [.code (codeOf (EH H) k)] ([u,v,w,x]++List.replicate (z3C (EH H) k-List.length ([u,v,w,x]:List AV)) .undef) m=q0j (Rl H) (F u v w x) m):IF4 H (a4 F) k:=fun u v w x m=>run_eq 400 hH hB (h u v w x m)
noncomputable abbrev a5 (F:AV->AV->AV->AV->AV->CM):List AV->CM:=apS fun u=>apS fun v=>apS fun w=>apS fun x=>apS fun y=>ap0 (F u v w x y)
theorem c5 {F:AV->AV->AV->AV->AV->CM} (h:∀(u v w x y:AV) (m:Mem),goC (EH H) (run (EH H)) (.fn (q1x (EH H) (k / 4096))) (go (EH H) (.fn (q1x (EH H) (k / 4096)))) 400 (kAt (EH H) (k / 4096) (k % 4096)) (spread (Mk k) [u,v,w,x,y]) m=q0j (Rl H) (F u v w x y) m):OkG H (a5 F) k:=sE fun _=>sE fun _=>sE fun _=>sE fun _=>sE fun _=>zE fun _=>q2b 400 (h _ _ _ _ _ _)
theorem e5 {F:AV->AV->AV->AV->AV->CM} (hH:H k=none) (hB:((EH H).B k).isSome=true) (h:∀(u v w x y:AV) (m:Mem),goC (EH H) (run (EH H)) (.fn (q1x (EH H) k)) (go (EH H) (.fn (q1x (EH H) k))) 400 [.code (codeOf (EH H) k)] ([u,v,w,x,y]++List.replicate (z3C (EH H) k-List.length ([u,v,w,x,y]:List AV)) .undef) m=q0j (Rl H) (F u v w x y) m):OkF H (a5 F) k:=sE fun _=>sE fun _=>sE fun _=>sE fun _=>sE fun _=>zE fun _=>run_eq 400 hH hB (h _ _ _ _ _ _)
abbrev IG5 (H:FuncId->Option (List AV->Mem->R)) (g:List AV->CM) (k:Nat):Prop:=∀(u v w x y:AV) (m:Mem),(Rl H).gor k [u,v,w,x,y] m=q0j (Rl H) (g [u,v,w,x,y]) m
theorem gk5 {F:AV->AV->AV->AV->AV->CM} (h:∀(u v w x y:AV) (m:Mem),goC (EH H) (run (EH H)) (.fn (q1x (EH H) (k / 4096))) (go (EH H) (.fn (q1x (EH H) (k / 4096)))) 400 (kAt (EH H) (k / 4096) (k % 4096)) (spread (Mk k) [u,v,w,x,y]) m=q0j (Rl H) (F u v w x y) m):IG5 H (a5 F) k:=fun u v w x y m=>q2b 400 (h u v w x y m)
noncomputable abbrev a6 (F:AV->AV->AV->AV->AV->AV->CM):List AV->CM:=apS fun u=>apS fun v=>apS fun w=>apS fun x=>apS fun y=>apS fun z=>ap0 (F u v w x y z)
theorem c6 {F:AV->AV->AV->AV->AV->AV->CM} (h:∀(u v w x y z:AV) (m:Mem),goC (EH H) (run (EH H)) (.fn (q1x (EH H) (k / 4096))) (go (EH H) (.fn (q1x (EH H) (k / 4096)))) 400 (kAt (EH H) (k / 4096) (k % 4096)) (spread (Mk k) [u,v,w,x,y,z]) m=q0j (Rl H) (F u v w x y z) m):OkG H (a6 F) k:=sE fun _=>sE fun _=>sE fun _=>sE fun _=>sE fun _=>sE fun _=>zE fun _=>q2b 400 (h _ _ _ _ _ _ _)
theorem e6 {F:AV->AV->AV->AV->AV->AV->CM} (hH:H k=none) (hB:((EH H).B k).isSome=true) (h:∀(u v w x y z:AV) (m:Mem),goC (EH H) (run (EH H)) (.fn (q1x (EH H) k)) (go (EH H) (.fn (q1x (EH H) k))) 400 [.code (codeOf (EH H) k)] ([u,v,w,x,y,z]++List.replicate (z3C (EH H) k-List.length ([u,v,w,x,y,z]:List AV)) .undef) m=q0j (Rl H) (F u v w x y z) m):OkF H (a6 F) k:=sE fun _=>sE fun _=>sE fun _=>sE fun _=>sE fun _=>sE fun _=>zE fun _=>run_eq 400 hH hB (h _ _ _ _ _ _ _)
abbrev IG6 (H:FuncId->Option (List AV->Mem->R)) (g:List AV->CM) (k:Nat):Prop:=∀(u v w x y z:AV) (m:Mem),(Rl H).gor k [u,v,w,x,y,z] m=q0j (Rl H) (g [u,v,w,x,y,z]) m
theorem gk6 {F:AV->AV->AV->AV->AV->AV->CM} (h:∀(u v w x y z:AV) (m:Mem),goC (EH H) (run (EH H)) (.fn (q1x (EH H) (k / 4096))) (go (EH H) (.fn (q1x (EH H) (k / 4096)))) 400 (kAt (EH H) (k / 4096) (k % 4096)) (spread (Mk k) [u,v,w,x,y,z]) m=q0j (Rl H) (F u v w x y z) m):IG6 H (a6 F) k:=fun u v w x y z m=>q2b 400 (h u v w x y z m)
noncomputable abbrev a7 (F:AV->AV->AV->AV->AV->AV->AV->CM):List AV->CM:=apS fun u=>apS fun v=>apS fun w=>apS fun x=>apS fun y=>apS fun z=>apS fun u6=>ap0 (F u v w x y z u6)
theorem e7 {F:AV->AV->AV->AV->AV->AV->AV->CM} (hH:H k=none) (hB:((EH H).B k).isSome=true) (h:∀(u v w x y z u6:AV) (m:Mem),goC (EH H) (run (EH H)) (.fn (q1x (EH H) k)) (go (EH H) (.fn (q1x (EH H) k))) 400 [.code (codeOf (EH H) k)] ([u,v,w,x,y,z,u6]++List.replicate (z3C (EH H) k-List.length ([u,v,w,x,y,z,u6]:List AV)) .undef) m=q0j (Rl H) (F u v w x y z u6) m):OkF H (a7 F) k:=sE fun _=>sE fun _=>sE fun _=>sE fun _=>sE fun _=>sE fun _=>sE fun _=>zE fun _=>run_eq 400 hH hB (h _ _ _ _ _ _ _ _)
abbrev IG7 (H:FuncId->Option (List AV->Mem->R)) (g:List AV->CM) (k:Nat):Prop:=∀(u v w x y z u6:AV) (m:Mem),(Rl H).gor k [u,v,w,x,y,z,u6] m=q0j (Rl H) (g [u,v,w,x,y,z,u6]) m
theorem gk7 {F:AV->AV->AV->AV->AV->AV->AV->CM} (h:∀(u v w x y z u6:AV) (m:Mem),goC (EH H) (run (EH H)) (.fn (q1x (EH H) (k / 4096))) (go (EH H) (.fn (q1x (EH H) (k / 4096)))) 400 (kAt (EH H) (k / 4096) (k % 4096)) (spread (Mk k) [u,v,w,x,y,z,u6]) m=q0j (Rl H) (F u v w x y z u6) m):IG7 H (a7 F) k:=fun u v w x y z u6 m=>q2b 400 (h u v w x y z u6 m)
noncomputable abbrev a8 (F:AV->AV->AV->AV->AV->AV->AV->AV->CM):List AV->CM:=apS fun u=>apS fun v=>apS fun w=>apS fun x=>apS fun y=>apS fun z=>apS fun u6=>apS fun u7=>ap0 (F u v w x y z u6 u7)
abbrev IG8 (H:FuncId->Option (List AV->Mem->R)) (g:List AV->CM) (k:Nat):Prop:=∀(u v w x y z u6 u7:AV) (m:Mem),(Rl H).gor k [u,v,w,x,y,z,u6,u7] m=q0j (Rl H) (g [u,v,w,x,y,z,u6,u7]) m
theorem gk8 {F:AV->AV->AV->AV->AV->AV->AV->AV->CM} (h:∀(u v w x y z u6 u7:AV) (m:Mem),goC (EH H) (run (EH H)) (.fn (q1x (EH H) (k / 4096))) (go (EH H) (.fn (q1x (EH H) (k / 4096)))) 400 (kAt (EH H) (k / 4096) (k % 4096)) (spread (Mk k) [u,v,w,x,y,z,u6,u7]) m=q0j (Rl H) (F u v w x y z u6 u7) m):IG8 H (a8 F) k:=fun u v w x y z u6 u7 m=>q2b 400 (h u v w x y z u6 u7 m)
noncomputable abbrev a9 (F:AV->AV->AV->AV->AV->AV->AV->AV->AV->CM):List AV->CM:=apS fun u=>apS fun v=>apS fun w=>apS fun x=>apS fun y=>apS fun z=>apS fun u6=>apS fun u7=>apS fun u8=>ap0 (F u v w x y z u6 u7 u8)
theorem c9 {F:AV->AV->AV->AV->AV->AV->AV->AV->AV->CM} (h:∀(u v w x y z u6 u7 u8:AV) (m:Mem),goC (EH H) (run (EH H)) (.fn (q1x (EH H) (k / 4096))) (go (EH H) (.fn (q1x (EH H) (k / 4096)))) 400 (kAt (EH H) (k / 4096) (k % 4096)) (spread (Mk k) [u,v,w,x,y,z,u6,u7,u8]) m=q0j (Rl H) (F u v w x y z u6 u7 u8) m):OkG H (a9 F) k:=sE fun _=>sE fun _=>sE fun _=>sE fun _=>sE fun _=>sE fun _=>sE fun _=>sE fun _=>sE fun _=>zE fun _=>q2b 400 (h _ _ _ _ _ _ _ _ _ _)
theorem e9 {F:AV->AV->AV->AV->AV->AV->AV->AV->AV->CM} (hH:H k=none) (hB:((EH H).B k).isSome=true) (h:∀(u v w x y z u6 u7 u8:AV) (m:Mem),goC (EH H) (run (EH H)) (.fn (q1x (EH H) k)) (go (EH H) (.fn (q1x (EH H) k))) 400 [.code (codeOf (EH H) k)] ([u,v,w,x,y,z,u6,u7,u8]++List.replicate (z3C (EH H) k-List.length ([u,v,w,x,y,z,u6,u7,u8]:List AV)) .undef) m=q0j (Rl H) (F u v w x y z u6 u7 u8) m):OkF H (a9 F) k:=sE fun _=>sE fun _=>sE fun _=>sE fun _=>sE fun _=>sE fun _=>sE fun _=>sE fun _=>sE fun _=>zE fun _=>run_eq 400 hH hB (h _ _ _ _ _ _ _ _ _ _)
abbrev IG9 (H:FuncId->Option (List AV->Mem->R)) (g:List AV->CM) (k:Nat):Prop:=∀(u v w x y z u6 u7 u8:AV) (m:Mem),(Rl H).gor k [u,v,w,x,y,z,u6,u7,u8] m=q0j (Rl H) (g [u,v,w,x,y,z,u6,u7,u8]) m
theorem gk9 {F:AV->AV->AV->AV->AV->AV->AV->AV->AV->CM} (h:∀(u v w x y z u6 u7 u8:AV) (m:Mem),goC (EH H) (run (EH H)) (.fn (q1x (EH H) (k / 4096))) (go (EH H) (.fn (q1x (EH H) (k / 4096)))) 400 (kAt (EH H) (k / 4096) (k % 4096)) (spread (Mk k) [u,v,w,x,y,z,u6,u7,u8]) m=q0j (Rl H) (F u v w x y z u6 u7 u8) m):IG9 H (a9 F) k:=fun u v w x y z u6 u7 u8 m=>q2b 400 (h u v w x y z u6 u7 u8 m)
noncomputable abbrev a10 (F:AV->AV->AV->AV->AV->AV->AV->AV->AV->AV->CM):List AV->CM:=apS fun u=>apS fun v=>apS fun w=>apS fun x=>apS fun y=>apS fun z=>apS fun u6=>apS fun u7=>apS fun u8=>apS fun u9=>ap0 (F u v w x y z u6 u7 u8 u9)
abbrev b0I (H:FuncId->Option (List AV->Mem->R)) (g:List AV->CM) (k:Nat):Prop:=∀(u v w x y z u6 u7 u8 u9:AV) (m:Mem),(Rl H).gor k [u,v,w,x,y,z,u6,u7,u8,u9] m=q0j (Rl H) (g [u,v,w,x,y,z,u6,u7,u8,u9]) m
theorem b1G {F:AV->AV->AV->AV->AV->AV->AV->AV->AV->AV->CM} (h:∀(u v w x y z u6 u7 u8 u9:AV) (m:Mem),goC (EH H) (run (EH H)) (.fn (q1x (EH H) (k / 4096))) (go (EH H) (.fn (q1x (EH H) (k / 4096)))) 400 (kAt (EH H) (k / 4096) (k % 4096)) (spread (Mk k) [u,v,w,x,y,z,u6,u7,u8,u9]) m=q0j (Rl H) (F u v w x y z u6 u7 u8 u9) m):b0I H (a10 F) k:=fun u v w x y z u6 u7 u8 u9 m=>q2b 400 (h u v w x y z u6 u7 u8 u9 m)
end
end
end Go.Proofs.YtlginbmjiecglaaGreatDoor.T
