/- Texts of one claim, put together. -/
import Derived.Calls
namespace Go.Abs
theorem ai {a b : Prop} (x : a) (y : b) : a ∧ b := ⟨x, y⟩
theorem df {p : Prop} [i : Decidable p] (h : ¬ p) : decide p = false := decide_eq_false h
theorem dt {p : Prop} [i : Decidable p] (h : p) : decide p = true := decide_eq_true h
theorem be {α β : Type _} {o : Option α} {f : α → Option β} {b : β} (h : o.bind f = some b) : ∃ a, o = some a ∧ f a = some b := Option.bind_eq_some_iff.1 h
abbrev xlm := @List.length_map
abbrev xgq := @List.getElem?_eq_getElem
abbrev xbt := @Bool.not_true
abbrev xbf := @Bool.not_false
abbrev xgi := @List.getElem?_eq_some_iff
abbrev xms := @List.mem_singleton
abbrev xmc := @List.mem_cons_self
abbrev xbq := @Bool.false_eq_true
abbrev xom := @Option.map_some
abbrev xnr := @Nat.le_refl
abbrev xoi := @Option.some.injEq
abbrev xgm := @List.getElem_map
abbrev xoe := @Option.map_eq_some_iff
abbrev xtl := @List.take_of_length_le
abbrev xnt0 := @Nat.le_trans
abbrev xma := @List.mem_append
abbrev xgz := @List.getElem?_cons_zero
abbrev xgs := @List.getElem?_cons_succ
abbrev xmk0 := @List.mem_cons
abbrev xsj := @Option.some.inj
abbrev xla0 := @List.length_append
abbrev xlt0 := @List.length_take
abbrev xld0 := @List.length_drop
abbrev xnz := @Nat.zero_add
abbrev xna := @Nat.add_zero
abbrev xAa := @if_neg
abbrev xAb := @if_pos
abbrev xAc := @Bool.and_eq_true
abbrev xAd := @if_true
abbrev xAe := @List.getD_eq_getElem?_getD
abbrev xAf := @List.getElem_mem
abbrev xAg := @List.append_assoc
abbrev xAh := @if_false
abbrev xAi := @List.length_cons
abbrev xAj := @decide_eq_true_eq
abbrev xAk := @List.drop_eq_getElem_cons
abbrev xAl := @Array.getElem?_eq_getElem
abbrev xAm := @List.nil_append
abbrev xAn := @decide_true
abbrev xAo := @Nat.mul_le_mul_right
abbrev xAp := @List.drop_zero
abbrev xAq := @not_true_eq_false
abbrev xAr := @Option.bind_some
abbrev xAs := @Bool.true_and
abbrev xAt := @Bool.false_and
abbrev xAu := @List.getElem?_eq_none
abbrev xAv := @List.length_nil
abbrev xAw := @Option.mem_toList
abbrev xAx := @Array.getD_eq_getD_getElem?
abbrev xAy := @List.cons_append
abbrev xAz := @Int.natCast_zero
abbrev xBa := @List.mem_cons_of_mem
abbrev xBb := @Array.getElem?_eq_some_iff
abbrev xBc := @List.length_eq_zero_iff
abbrev xBd := @List.all_eq_true
abbrev xBe := @List.append_nil
abbrev xBf := @List.map_cons
abbrev xBg := @List.mem_iff_getElem
abbrev xBh := @List.drop_succ_cons
abbrev xBi := @List.getElem?_map
abbrev xBj := @List.getElem?_append_left
abbrev xBk := @List.take_succ_cons
abbrev xBl := @List.getElem?_append_right
abbrev xBm := @Int.tmod_eq_emod_of_nonneg
abbrev xBn := @Array.getElem?_setIfInBounds_ne
abbrev xBo := @Int.mul_assoc
abbrev xBp := @List.take_zero
abbrev xBq := @List.all_cons
abbrev xBr := @List.mem_map
abbrev xBs := @Array.getElem?_setIfInBounds_self_of_lt
abbrev xBt := @Prod.mk.injEq
abbrev xBu := @List.getElem?_drop
abbrev xBv := @true_or
abbrev xBw := @List.getElem?_take
abbrev xBx := @Nat.zero_le
abbrev xBy := @Classical.byContradiction
abbrev xBz := @Array.getElem?_push_lt
abbrev xCa := @List.mem_of_getElem?
abbrev xCb := @List.flatten_cons
abbrev xCc := @Nat.lt_of_lt_of_le
abbrev xCd := @Int.mul_le_mul_of_nonneg_right
abbrev xCe := @List.mem_map_of_mem
abbrev xCf := @List.take_append_of_le_length
abbrev xCg := @Int.toNat_natCast
abbrev xCh := @Int.mul_nonneg
abbrev xCi := @Nat.succ_mul
abbrev xCj := @Array.getElem?_toList
abbrev xCk := @of_decide_eq_true
abbrev xCl := @decide_eq_false_iff_not
abbrev xCm := @List.flatMap_cons
abbrev xCn := @Int.tdiv_eq_ediv_of_nonneg
abbrev xCo := @Option.toList_some
abbrev xCp := @Nat.lt_of_le_of_lt
abbrev xCq := @Nat.div_div_eq_div_mul
abbrev xCr := @Nat.min_eq_left
abbrev xCs := @Nat.add_mul
abbrev xCt := @List.takeWhile_cons
abbrev xCu := @not_false_eq_true
abbrev xCv := @List.ext_getElem?
abbrev xCw := @List.all_nil
abbrev xCx := @List.map_append
abbrev xCy := @Int.ediv_nonneg
abbrev xCz := @Nat.pow_le_pow_right
abbrev xDa := @Nat.pow_zero
abbrev xDb := @Int.fdiv_eq_ediv_of_nonneg
abbrev xDc := @List.drop_of_length_le
abbrev xDd := @List.drop_eq_nil_of_le
abbrev xDe := @List.mem_range
abbrev xDf := @List.mem_or_eq_of_mem_set
abbrev xDg := @Bool.and_false
abbrev xDh := @decide_false
abbrev xDi := @List.contains_iff_mem
abbrev xDj := @List.cons.injEq
abbrev xDk := @Int.mul_comm
abbrev xDl := @Bool.eq_iff_iff
abbrev xDm := @Int.emod_lt_of_pos
abbrev xDn := @List.range_eq_range'
abbrev xDo := @Nat.mul_assoc
abbrev xDp := @Nat.lt_irrefl
abbrev xDq := @Nat.mul_comm
abbrev xDr := @List.size_toArray
abbrev xDs := @List.flatten_append
abbrev xDt := @Int.add_mul
abbrev xDu := @Bool.or_eq_true
abbrev xDv := @List.getElem_cons_zero
abbrev xDw := @Option.bind_none
abbrev xDx := @Nat.mod_eq_of_lt
abbrev xDy := @Nat.div_eq_of_lt
abbrev xDz := @List.drop_length
abbrev xEa := @Int.ediv_le_self
abbrev xEb := @Nat.le_of_ble_eq_true
abbrev xEc := @List.take_append_drop
abbrev xEd := @List.pairwise_cons
abbrev xEe := @List.length_singleton
abbrev xEf := @List.getElem?_toArray
abbrev xEg := @Int.ediv_mul_add_emod
abbrev xEh := @Bool.and_eq_false_iff
abbrev xEi := @Nat.pow_add
abbrev xEj := @List.mem_of_mem_drop
abbrev xEk := @Nat.mul_left_comm
abbrev xEl := @List.foldl_cons
abbrev xEm := @Int.emod_nonneg
abbrev xEn := @Int.emod_eq_of_lt
abbrev xEo := @Nat.le_mul_of_pos_right
abbrev xEp := @Nat.add_sub_cancel_left
abbrev xEq := @Nat.add_assoc
abbrev xEr := @Int.pow_add
abbrev xEs := @Int.eq_ofNat_of_zero_le
abbrev xEt := @Option.getD_some
abbrev xEu := @List.filter_cons
abbrev xEv := @Nat.mod_lt
abbrev xEw := @List.take_take
abbrev xEx := @List.drop_drop
abbrev xEy := @Array.ext'
abbrev xEz := @List.getElem_cons_succ
abbrev xFa := @congrArg
abbrev xFb := @and_true
abbrev xFc := @Nat.add_sub_cancel
abbrev xFd := @Nat.zero_mul
abbrev xFe := @Nat.pow_succ
abbrev xFf := @Nat.mul_one
abbrev xFg := @Nat.add_mul_div_right
abbrev xFh := @Int.zero_add
abbrev xFi := @Int.natCast_pow
abbrev xFj := @Int.ediv_lt_of_lt_mul
abbrev xFk := @Nat.lt_trichotomy
abbrev xFl := @List.length_range
abbrev xFm := @List.getElem?_set
abbrev xFn := @trivial
abbrev xFo := @List.getElem?_set_ne
abbrev xFp := @Bool.or_eq_false_iff
abbrev xFq := @List.not_mem_nil
abbrev xFr := @List.flatMap_nil
abbrev xFs := @Int.toNat_of_nonneg
abbrev xFu := @Nat.sub_self
abbrev xFv := @List.map_set
abbrev xFw := @List.map_nil
end Go.Abs
namespace Go.Abs
open Go
noncomputable section
structure AA where
 b:Nat
 o:Nat
 deriving DecidableEq
inductive AV where
 |undef
 |bool (b:Bool)
 |int (k:IntKind) (n:Int)
 |str (s:List UInt8)
 |ptr (a:Option AA)
 |sl (a:Option AA) (sz len cap:Nat) (ex:Bool)
 |map (r:Option Nat)
 |fn (f:Fn) (first captured:List AV)
 |yld (b:Nat)
 |nilFn
 |iface (t:TypeId) (v:AV)
 |nilIface
 |agg (cs:List AV)
 |tup (vs:List AV)
instance:Inhabited AV:=⟨.undef⟩
mutual
def AV.beq:AV->AV->Bool
 | .undef,.undef=>true
 | .bool a,.bool b=>a==b
 | .int j a,.int k b=>decide (j=k)&&decide (a=b)
 | .str a,.str b=>decide (a=b)
 | .ptr a,.ptr b=>decide (a=b)
 | .sl a s l c e,.sl a' s' l' c' e'=>decide (a=a')&&decide (s=s')&&decide (l=l')&&decide (c=c')&&decide (e=e')
 | .map a,.map b=>decide (a=b)
 | .fn f x y,.fn g z u=>decide (f=g)&&AV.j0F x z&&AV.j0F y u
 | .yld a,.yld b=>decide (a=b)
 | .nilFn,.nilFn=>true
 | .iface t v,.iface u w=>decide (t=u)&&AV.beq v w
 | .nilIface,.nilIface=>true
 | .agg a,.agg b=>AV.j0F a b
 | .tup a,.tup b=>AV.j0F a b
 | _,_=>false
def AV.j0F:List AV->List AV->Bool
 |[],[]=>true
 |a::as,b::bs=>AV.beq a b&&AV.j0F as bs
 | _,_=>false
end
mutual
theorem AV.eq_of_beq:∀{a b:AV},AV.beq a b=true->a=b
 | .undef,b,h=>by cases b<;>simp_all [AV.beq]
 | .bool _,b,h=>by cases b<;>simp_all [AV.beq]
 | .int ..,b,h=>by cases b<;>simp_all [AV.beq]
 | .str _,b,h=>by cases b<;>simp_all [AV.beq]
 | .ptr _,b,h=>by cases b<;>simp_all [AV.beq]
 | .sl ..,b,h=>by cases b<;>simp_all [AV.beq]
 | .map _,b,h=>by cases b<;>simp_all [AV.beq]
 | .yld _,b,h=>by cases b<;>simp_all [AV.beq]
 | .fn f x y,b,h=>by
  cases b with
  |fn g z u=>
   simp only[AV.beq,Bool.and_eq_true,decide_eq_true_eq]at h;rw[h.1.1,AV.q2M h.1.2,AV.q2M h.2]
  | _=>simp[AV.beq]at h
 | .nilFn,b,h=>by cases b<;>simp_all [AV.beq]
 | .iface t v,b,h=>by
  cases b with
  |iface u w=>
   simp only[AV.beq,Bool.and_eq_true,decide_eq_true_eq]at h;rw[h.1,AV.eq_of_beq h.2]
  | _=>simp[AV.beq]at h
 | .nilIface,b,h=>by cases b<;>simp_all [AV.beq]
 | .agg a,b,h=>by
  cases b with
  |agg c=>simp only[AV.beq]at h;rw[AV.q2M h]
  | _=>simp[AV.beq]at h
 | .tup a,b,h=>by
  cases b with
  |tup c=>simp only[AV.beq]at h;rw[AV.q2M h]
  | _=>simp[AV.beq]at h
theorem AV.q2M:∀{a b:List AV},AV.j0F a b=true->a=b
 |[],[],_=>rfl
 |a::as,b::bs,h=>by
  simp only[AV.j0F,Bool.and_eq_true]at h;rw[AV.eq_of_beq h.1,AV.q2M h.2]
 |[],_::_,h=>by simp[AV.j0F]at h
 | _::_,[],h=>by simp[AV.j0F]at h
end
mutual
theorem AV.beq_refl:∀a:AV,AV.beq a a=true
 | .undef | .bool _ | .int .. | .str _ | .ptr _ | .sl .. | .map _ | .yld _ | .nilFn | .nilIface=>by simp[AV.beq]
 | .fn f x y=>by simp[AV.beq,AV.q4X x,AV.q4X y]
 | .iface t v=>by simp[AV.beq,AV.beq_refl v]
 | .agg a=>by simp[AV.beq,AV.q4X a]
 | .tup a=>by simp[AV.beq,AV.q4X a]
theorem AV.q4X:∀a:List AV,AV.j0F a a=true
 |[]=>rfl
 |a::as=>by simp[AV.j0F,AV.beq_refl a,AV.q4X as]
end
instance:DecidableEq AV:=fun a b=>if h:AV.beq a b=true then .isTrue (AV.eq_of_beq h) else .isFalse fun e=>h (e▸AV.beq_refl a)
def AV.one:AV->Bool
 | .undef | .agg _ | .tup _=>false
 | _=>true
def AV.part:AV->Bool
 | .agg _ | .tup _=>false
 | _=>true
def AV.cells:AV->Option (List AV)
 | .agg cs=>if cs.all AV.one then some cs else none
 | .undef | .tup _=>none
 |v=>some [v]
inductive Jmp where
 |ret
 |exit (id:Nat)
 deriving DecidableEq
inductive AC where
 |skip
 |region (id:Nat) (ops:List Oper) (draw:Bool) (chk anc:List (List Nat))
 |seq (a b:AC)
 |cond (c:Operand) (thn els:AC)
 |block (id:Nat) (body:AC)
 |loop (body:AC)
 |rangeFunc (f:Operand) (params:List Tmp) (assign body:AC)
 |scope (body:AC)
 |exit (id:Nat)
 |ret
 |pt (live:List Bool) (c:AC)
 |other (c:Code)
def AC.erase:AC->Code
 | .skip=>.skip
 | .region id ops draw _ _=>.region id ⟨ops⟩ draw
 | .seq a b=>.seq a.erase b.erase
 | .cond c x y=>.cond c x.erase y.erase
 | .block id b=>.block id b.erase
 | .loop b=>.loop b.erase
 | .rangeFunc f ps a b=>.rangeFunc f ⟨ps⟩ a.erase b.erase
 | .scope b=>.scope b.erase
 | .exit id=>.exit id
 | .ret=>.ret
 | .pt _ c=>c.erase
 | .other c=>c
def Jmp.code:Jmp->AC
 | .ret=>.ret
 | .exit id=>.exit id
structure q91 where
 state:LoopState
 pending:Option Jmp
 tmps:List AV
 params:List Tmp
 assign:AC
 body:AC
inductive Blk where
 |cells (cs:List AV) (ro:Bool)
 |loop (l:q91)
 |map (es:List (AV×AV))
 |rmap (es:List (AV×AV)) (c:Nat)
 |iter (b:Nat) (left:List (AV×AV)) (cur:Option (AV×AV))
inductive PT where
 |leaf
 |node (v:Option Blk) (l r:PT)
def PT.get (t:PT) (k:Nat):Option Blk:=
 PT.rec (motive:=fun _=>Nat->Option Blk) (fun _=>none)
  (fun v _ _ l r k=>Bool.rec (motive:=fun _=>Option Blk) (Bool.rec (motive:=fun _=>Option Blk) (r (Nat.pred (Nat.div k 2))) (l (Nat.div k 2)) (Nat.beq (Nat.mod k 2) 1)) v (Nat.beq k 0)) t k
def PT.val:PT->Option Blk
 | .leaf=>none
 | .node v _ _=>v
def PT.lft:PT->PT
 | .leaf=>.leaf
 | .node _ l _=>l
def PT.rgt:PT->PT
 | .leaf=>.leaf
 | .node _ _ r=>r
def PT.j1J (f:Nat) (t:PT) (k:Nat) (v:Option Blk):PT:=
 Nat.rec (motive:=fun _=>PT->Nat->PT) (fun t _=>.node v t.lft t.rgt)
  (fun _ ih t k=>Bool.rec (motive:=fun _=>PT) (Bool.rec (motive:=fun _=>PT) (.node t.val t.lft (ih t.rgt (Nat.pred (Nat.div k 2)))) (.node t.val (ih t.lft (Nat.div k 2)) t.rgt) (Nat.beq (Nat.mod k 2) 1)) (.node v t.lft t.rgt) (Nat.beq k 0)) f t k
def PT.set (t:PT) (k:Nat) (v:Option Blk):PT:=PT.j1J k t k v
theorem a0L (a b:Nat):Nat.beq a b=decide (a=b):=by
 by_cases h:a=b
 ·subst h;rw[Nat.beq_refl];simp
 ·rw[df h];cases e:Nat.beq a b with
  |false=>rfl
  |true=>exact absurd (Nat.eq_of_beq_eq_true e) h
theorem PT.z1Q (k:Nat):PT.leaf.get k=none:=rfl
theorem PT.q3c (v:Option Blk) (l r:PT) (k:Nat):(PT.node v l r).get k=if k=0 then v else if k % 2=1 then l.get (k / 2) else r.get (k / 2-1):=by
 have hu:(PT.node v l r).get k=Bool.rec (motive:=fun _=>Option Blk) (Bool.rec (motive:=fun _=>Option Blk) (r.get (Nat.pred (Nat.div k 2))) (l.get (Nat.div k 2)) (Nat.beq (Nat.mod k 2) 1)) v (Nat.beq k 0):=rfl
 rw[hu,a0L,a0L];by_cases h:k=0
 ·rw[dt h,if_pos h]
 ·rw[df h,if_neg h];by_cases h2:k % 2=1
  ·rw[dt (show Nat.mod k 2=1 from h2),if_pos h2];rfl
  ·rw[df (show ¬Nat.mod k 2=1 from h2),if_neg h2];rfl
theorem PT.q4q (f:Nat) (t:PT) (k:Nat) (v:Option Blk):PT.j1J (f+1) t k v=if k=0 then .node v t.lft t.rgt else if k % 2=1 then .node t.val (PT.j1J f t.lft (k / 2) v) t.rgt else .node t.val t.lft (PT.j1J f t.rgt (k / 2-1) v):=by
 have hu:PT.j1J (f+1) t k v=Bool.rec (motive:=fun _=>PT) (Bool.rec (motive:=fun _=>PT) (.node t.val t.lft (PT.j1J f t.rgt (Nat.pred (Nat.div k 2)) v)) (.node t.val (PT.j1J f t.lft (Nat.div k 2) v) t.rgt) (Nat.beq (Nat.mod k 2) 1)) (.node v t.lft t.rgt) (Nat.beq k 0):=rfl
 rw[hu,a0L,a0L];by_cases h:k=0
 ·rw[dt h,if_pos h]
 ·rw[df h,if_neg h];by_cases h2:k % 2=1
  ·rw[dt (show Nat.mod k 2=1 from h2),if_pos h2];rfl
  ·rw[df (show ¬Nat.mod k 2=1 from h2),if_neg h2];rfl
theorem PT.z1R (t:PT) (k:Nat):t.get k=if k=0 then t.val else if k % 2=1 then t.lft.get (k / 2) else t.rgt.get (k / 2-1):=by
 cases t with
 |leaf=>simp[PT.get,PT.val,PT.lft,PT.rgt]
 |node v l r=>exact PT.q3c v l r k
theorem PT.z1T:∀(f:Nat) (t:PT) (k:Nat) (v:Option Blk) (j:Nat),k<=f->(PT.j1J f t k v).get j=if j=k then v else t.get j
 | 0,t,k,v,j,h=>by
  have hk:k=0:=by omega
  subst hk;have hu:PT.j1J 0 t 0 v=.node v t.lft t.rgt:=rfl;rw[PT.z1R t j,hu,PT.q3c];by_cases hj:j=0<;>simp[hj]
 |f+1,t,k,v,j,h=>by
  rw[PT.z1R t j,PT.q4q];by_cases hk:k=0
  ·subst hk;rw[if_pos rfl,PT.q3c];by_cases hj:j=0<;>simp[hj]
  ·simp only[if_neg hk];by_cases hk2:k % 2=1
   ·simp only[if_pos hk2];rw[PT.q3c,PT.z1T f t.lft (k / 2) v (j / 2) (by omega)];by_cases hj:j=0
    ·simp only[hj,if_true];rw[if_neg (by omega)]
    ·simp only[if_neg hj];by_cases hj2:j % 2=1
     ·simp only[if_pos hj2];by_cases e:j=k
      ·subst e;simp
      ·rw[if_neg (by omega),if_neg e]
     ·simp only[if_neg hj2];rw[if_neg (by omega)]
   ·simp only[if_neg hk2];rw[PT.q3c,PT.z1T f t.rgt (k / 2-1) v (j / 2-1) (by omega)];by_cases hj:j=0
    ·simp only[hj,if_true];rw[if_neg (by omega)]
    ·simp only[if_neg hj];by_cases hj2:j % 2=1
     ·simp only[if_pos hj2];rw[if_neg (by omega)]
     ·simp only[if_neg hj2];by_cases e:j=k
      ·subst e;simp
      ·rw[if_neg (by omega),if_neg e]
structure Mem where
 next:Nat
 tab:PT
def Mem.get (m:Mem) (b:Nat):Option Blk:=Bool.rec (motive:=fun _=>Option Blk) none (m.tab.get b) (Nat.ble (Nat.succ b) m.next)
theorem Mem.q2i (m:Mem) (b:Nat):m.get b=if b<m.next then m.tab.get b else none:=by
 unfold Mem.get;by_cases h:b<m.next
 ·rw[if_pos h,Nat.ble_eq_true_of_le h]
 ·rw[if_neg h];cases e:Nat.ble (Nat.succ b) m.next with
  |false=>rfl
  |true=>exact absurd (Nat.le_of_ble_eq_true e) h
def Mem.lay (m:Mem) (v:Blk):Mem:=⟨m.next+1,m.tab.set m.next (some v)⟩
abbrev Mem.alloc (m:Mem) (cs:List AV):Mem:=m.lay (.cells cs false)
def Mem.put (m:Mem) (b:Nat) (v:Option Blk):Mem:=⟨m.next,m.tab.set b v⟩
theorem PT.z1S (t:PT) (k:Nat) (v:Option Blk) (j:Nat):(t.set k v).get j=if j=k then v else t.get j:=PT.z1T k t k v j (Nat.le_refl k)
@[simp] theorem Mem.q0G (m:Mem) (v:Blk):(m.lay v).next=m.next+1:=rfl
@[simp] theorem Mem.q39 (m:Mem) (b:Nat) (v:Option Blk):(m.put b v).next=m.next:=rfl
theorem Mem.q0J (m:Mem) (v:Blk) (b:Nat):(m.lay v).get b=if b=m.next then some v else m.get b:=by
 simp only[Mem.q2i,Mem.lay,PT.z1S];by_cases h:b=m.next
 ·subst h;simp
 ·simp only[if_neg h];by_cases h2:b<m.next
  ·rw[if_pos h2,if_pos (by omega)]
  ·rw[if_neg h2,if_neg (by omega)]
theorem Mem.q3I (m:Mem) (cs:List AV) (b:Nat):(m.alloc cs).get b=if b=m.next then some (.cells cs false) else m.get b:=Mem.q0J m _ b
theorem Mem.get_put (m:Mem) (b:Nat) (v:Option Blk) (c:Nat):(m.put b v).get c=if c=b/\b<m.next then v else m.get c:=by
 simp only[Mem.q2i,Mem.put,PT.z1S];by_cases h:c=b
 ·subst h;by_cases h2:c<m.next<;>simp[h2]
 ·simp[h]
theorem Mem.q0u {m:Mem} {b:Nat} {v:Blk} (h:m.get b=some v):b<m.next:=by
 rw[Mem.q2i]at h;by_cases hb:b<m.next
 ·exact hb
 ·simp[hb]at h
theorem Mem.z0H {m:Mem} {b:Nat} (h:m.next<=b):m.get b=none:=by
 rw[Mem.q2i,if_neg (by omega)]
def q0C (m:Mem) (a:AA) (n:Nat):Option (List AV):=
 match m.get a.b with
 |some (.cells cs _)=>if a.o+n<=cs.length then some ((cs.drop a.o).take n) else none
 | _=>none
def q1l (m:Mem) (a:AA) (vs:List AV):Option Mem:=
 match m.get a.b with
 |some (.cells cs false)=>if a.o+vs.length<=cs.length then some (m.put a.b (some (.cells (cs.take a.o++vs++cs.drop (a.o+vs.length)) false))) else none
 | _=>none
def ld1 (m:Mem) (v:AV):Option AV:=
 match v with
 | .ptr (some a)=>match m.get a.b with
  |some (.cells cs _)=>cs[a.o]?
  | _=>none
 | _=>none
def ldN (m:Mem) (v:AV) (n:Nat):Option AV:=
 match v with
 | .ptr (some a)=>(q0C m a n).map AV.agg
 | _=>none
def stV (m:Mem) (p v:AV) (n:Nat):Option Mem:=
 match p with
 | .ptr (some a)=>match v.cells with
  |some cs=>if cs.length=n then q1l m a cs else none
  |none=>none
 | _=>none
def ofV:Value->Option AV
 | .bool b=>some (.bool b)
 | .int k n=>some (.int k n)
 | .string s=>some (.str s.data.toList)
 | .pointer none=>some (.ptr none)
 | .slice none 0 0=>some (.sl none 0 0 0 true)
 | .map none=>some (.map none)
 | .func f ⟨[]⟩ ⟨[]⟩=>some (.fn f [] [])
 | .nilFunc=>some .nilFn
 | .nilIface=>some .nilIface
 | .agg ⟨cs⟩=>(ofParts cs).map AV.agg
 | _=>none
 where
 ofPart:Value->Option AV
  | .bool b=>some (.bool b)
  | .int k n=>some (.int k n)
  | .string s=>some (.str s.data.toList)
  | .pointer none=>some (.ptr none)
  | .slice none 0 0=>some (.sl none 0 0 0 true)
  | .map none=>some (.map none)
  | .nilFunc=>some .nilFn
  | .nilIface=>some .nilIface
  | _=>none
 ofParts:List Value->Option (List AV)
  |[]=>some []
  |v::vs=>match ofPart v,ofParts vs with
   |some a,some as=>some (a::as)
   | _,_=>none
def nth (l:List AV):Nat->AV:=List.rec (motive:=fun _=>Nat->AV) (fun _=>.undef) (fun a _ ih k=>Nat.rec (motive:=fun _=>AV) a (fun j _=>ih j) k) l
def j1I (l:List AV) (k:Nat) (v:AV):List AV:=List.rec (motive:=fun _=>Nat->List AV) (fun _=>[]) (fun a t ih k=>Nat.rec (motive:=fun _=>List AV) (v::t) (fun j _=>a::ih j) k) l k
theorem q3M:∀(l:List AV) (k:Nat),nth l k=l.getD k .undef
 |[],k=>by simp[nth]
 | _::_,0=>rfl
 |a::l,k+1=>by
  have hu:nth (a::l) (k+1)=nth l k:=rfl;rw[hu,q3M l k];simp
theorem q6g:∀(l:List AV) (k:Nat) (v:AV),j1I l k v=l.set k v
 |[],k,v=>rfl
 | _::_,0,_=>rfl
 |a::l,k+1,v=>by
  have hu:j1I (a::l) (k+1) v=a::j1I l k v:=rfl;rw[hu,q6g l k v];rfl
def ev (P:Program) (t:List AV):Operand->Option AV
 | .tmp i=>some (nth t i)
 | .const v=>ofV v
 | .global g=>if g<P.globals.size then some (.ptr (some ⟨g,0⟩)) else none
 | .func f=>some (.fn (.func f) [] [])
def evs (P:Program) (t:List AV):List Operand->Option (List AV)
 |[]=>some []
 |x::xs=>match ev P t x,evs P t xs with
  |some a,some as=>some (a::as)
  | _,_=>none
end
noncomputable section
def z9I (P:Program) (t:TypeId):Bool:=
 match P.underlying t with
 |some (.struct _)|some (.array ..)=>true
 | _=>false
def szT (P:Program) (t:TypeId):Option Nat:=(P.info? t).map (·.size)
def q5Y (P:Program) (t:TypeId):Option Nat:=(P.info? t).map (·.bytes)
abbrev R:=Option (AV×Mem)
def q0g:List UInt8->List UInt8->Bool
 | _,[]=>false
 |[],_::_=>true
 |a::x,b::y=>decide (a<b)||(decide (a=b)&&q0g x y)
def q6i (op:BinOp) (k:IntKind) (x y:Int):Option AV:=
 match op with
 | .add=>some (.int k (k.wrap (x+y)))
 | .sub=>some (.int k (k.wrap (x-y)))
 | .mul=>some (.int k (k.wrap (x*y)))
 | .quo=>if y=0 then none else some (.int k (k.wrap (x.tdiv y)))
 | .rem=>if y=0 then none else some (.int k (x.tmod y))
 | .and=>some (.int k (k.wrap (BitVec.ofInt k.bits x &&& BitVec.ofInt k.bits y).toNat))
 | .or=>some (.int k (k.wrap (BitVec.ofInt k.bits x ||| BitVec.ofInt k.bits y).toNat))
 | .xor=>some (.int k (k.wrap (BitVec.ofInt k.bits x ^^^ BitVec.ofInt k.bits y).toNat))
 | .andNot=>some (.int k (k.wrap (BitVec.ofInt k.bits x &&& ~~~(BitVec.ofInt k.bits y)).toNat))
 | .eql=>some (.bool (x==y))
 | .neq=>some (.bool (x != y))
 | .lss=>some (.bool (decide (x<y)))
 | .leq=>some (.bool (decide (x<=y)))
 | .gtr=>some (.bool (decide (x>y)))
 | .geq=>some (.bool (decide (x>=y)))
 | _=>none
def b1V (op:BinOp) (x y:List UInt8):Option AV:=
 match op with
 | .add=>if x.length+y.length<=4611686018427387904 then some (.str (x++y)) else none
 | .eql=>some (.bool (x==y))
 | .neq=>some (.bool !(x==y))
 | .lss=>some (.bool (q0g x y))
 | .leq=>some (.bool (q0g x y||x==y))
 | .gtr=>some (.bool (!(q0g x y||x==y)))
 | .geq=>some (.bool (!q0g x y))
 | _=>none
def shA (op:BinOp) (k:IntKind) (a b:Int):Option AV:=
 if b<0 then none else
 match op with
 | .shl=>some (.int k (k.wrap (a*2 ^ (min b.toNat k.bits))))
 | .shr=>some (.int k (a.fdiv (2 ^ (min b.toNat k.bits))))
 | _=>none
def z2m (P:Program) (t:TypeId) (cs:List AV) (off:Nat):Option AV:=
 match P.underlying t with
 |none=>none
 |some _=>if z9I P t then
   match szT P t with
   |some n=>if off+n<=cs.length then some (.agg ((cs.drop off).take n)) else none
   |none=>none
  else cs[off]?
def eqFields (P:Program) (eq:TypeId->AV->AV->Option Bool):List Field->List AV->List AV->Option Bool
  |[],_,_=>some true
  |f::fs,xs,ys=>
   if f.name = "_" then eqFields P eq fs xs ys else
   match z2m P f.type xs f.offset,z2m P f.type ys f.offset with
   |some a,some b=>match eq f.type a b with
    |some true=>eqFields P eq fs xs ys
    |some false=>some false
    |none=>none
   | _,_=>none
def q44 (P:Program) (eq:TypeId->AV->AV->Option Bool) (elem:TypeId) (n:Nat) (xs ys:List AV):Nat->Nat->Option Bool
  | 0,_=>some true
  |k+1,i=>
   match z2m P elem xs (i*n),z2m P elem ys (i*n) with
   |some a,some b=>match eq elem a b with
    |some true=>q44 P eq elem n xs ys k (i+1)
    |some false=>some false
    |none=>none
   | _,_=>none
def j4v:AV->AV->Option Bool
 | .bool a,.bool b=>some (a==b)
 | _,_=>none
def a8T:AV->AV->Option Bool
 | .int k a,.int k' b=>if k=k' then some (a==b) else none
 | _,_=>none
def a8W:AV->AV->Option Bool
 | .str a,.str b=>some (a==b)
 | _,_=>none
def a8V:AV->AV->Option Bool
 | .ptr none,.ptr b=>some b.isNone
 | .ptr (some _),.ptr none=>some false
 | _,_=>none
def b7r:AV->AV->Option Bool
 | .sl none _ _ _ true,.sl none _ _ _ true=>some true
 | .sl none _ _ _ true,.sl (some _) _ _ _ _=>some false
 | .sl (some _) _ _ _ _,.sl none _ _ _ true=>some false
 | _,_=>none
def a8U:AV->AV->Option Bool
 | .map none,.map b=>some b.isNone
 | .map (some _),.map none=>some false
 | _,_=>none
def b7q:AV->AV->Option Bool
 | .nilFn,.nilFn=>some true
 | .nilFn,.fn ..=>some false
 | .fn ..,.nilFn=>some false
 | _,_=>none
def z6O:AV->AV->Option Bool
 | .nilIface,.iface ..=>some false
 | .iface ..,.nilIface=>some false
 | _,_=>none
def z1h:AV->Option (List AV)
 | .agg xs=>some xs
 | _=>none
def eqA (P:Program):Nat->TypeId->AV->AV->Option Bool
 | 0,_,_,_=>none
 |d+1,t,x,y=>
  match P.underlying t with
  |some .bool=>j4v x y
  |some (.int _)=>a8T x y
  |some .string=>a8W x y
  |some (.pointer _)=>a8V x y
  |some (.slice _)=>b7r x y
  |some (.map ..)=>a8U x y
  |some (.func ..)=>b7q x y
  |some (.interface _)=>z6O x y
  |some (.struct fields)=>if P.stoodInHeld t then none else (z1h x).bind fun xs=>(z1h y).bind fun ys=>eqFields P (eqA P d) fields.toList xs ys
  |some (.array len elem)=>(z1h x).bind fun xs=>(z1h y).bind fun ys=>(szT P elem).bind fun n=>q44 P (eqA P d) elem n xs ys len 0
  | _=>none
def j8W:AV->Bool
 | .agg _=>true
 | _=>false
def eqT (P:Program) (neg:Bool) (t:TypeId) (x y:AV):Option AV:=
 match (if j8W x&&P.eqGuardType P.depth t then none else eqA P 50 t x y) with
 |some b=>some (.bool (if neg then !b else b))
 |none=>none
def q0E (P:Program) (op:BinOp) (t:TypeId) (x y:AV):Option AV:=
 match x,y with
 | .int k a,.int k' b=>
  match op with
  | .shl | .shr=>shA op k a b
  | _=>if k=k' then q6i op k a b else none
 | .str a,.str b=>match op with
  | .shl | .shr=>none
  | _=>b1V op a b
 | _,_=>match op with
  | .eql=>eqT P false t x y
  | .neq=>eqT P true t x y
  | _=>none
def unA (op:UnOp) (x:AV):Option AV:=
 match op,x with
 | .neg,.int k n=>some (.int k (k.wrap (0-n)))
 | .xor,.int k n=>q6i .xor k (if k.signed then -1 else k.max) n
 | .not,.bool b=>some (.bool !b)
 | _,_=>none
def nnA:AV->Option AV
 | .ptr (some a)=>some (.ptr (some a))
 | .iface t v=>some (.iface t v)
 | .fn (.func f) x y=>some (.fn (.func f) x y)
 | .yld b=>some (.yld b)
 | _=>none
def b74 (x:AV) (n:Nat):Option AV:=
 match x with
 | .ptr (some a)=>some (.ptr (some ⟨a.b,a.o+n⟩))
 | _=>none
def z1E (P:Program) (s:TypeId) (f:Nat):Option (Nat×TypeId):=
 match P.underlying s with
 |some (.struct fields)=>(fields.toList[f]?).map fun f=>(f.offset,f.type)
 | _=>none
def q0o (P:Program) (s:TypeId) (x:AV) (f:Nat):Option AV:=
 match z1E P s f with
 |some (off,ft)=>match szT P ft with
  |some (_+1)=>b74 x off
  | _=>none
 |none=>none
def z9d (P:Program) (s:TypeId) (x:AV) (f:Nat):Option AV:=
 match z1E P s f,x with
 |some (off,ft),.agg cs=>z2m P ft cs off
 | _,_=>none
def ixA (sz len:Nat) (a:AA) (i:Int):Option AV:=
 if 0<=i then if i<len then some (.ptr (some ⟨a.b,a.o+i.toNat*sz⟩)) else none else none
def q0A (P:Program) (t:TypeId) (x i:AV):Option AV:=
 match P.underlying t with
 |some (.slice e)=>match x,i with
  | .sl (some a) sz len _ ex,.int _ n=>match szT P e with
   |some s=>if s=sz\/ex=true then ixA s len a n else none
   |none=>none
  | _,_=>none
 |some (.array len e)=>match x,i with
  | .ptr (some a),.int _ n=>match szT P e with
   |some s=>ixA s len a n
   |none=>none
  | _,_=>none
 | _=>none
def z0J (P:Program) (t:TypeId) (x i:AV):Option AV:=
 match P.underlying t with
 |some (.array len e)=>match x,i with
  | .agg cs,.int _ n=>if 0<=n then if n<len then (match szT P e with|some s=>z2m P e cs (n.toNat*s)|none=>none) else none else none
  | _,_=>none
 |some .string=>match x,i with
  | .str s,.int _ n=>if 0<=n then (match s[n.toNat]? with|some c=>some (.int .u8 c.toNat)|none=>none) else none
  | _,_=>none
 | _=>none
def loA:Option AV->Nat->Option Nat
 |none,_=>some 0
 |some (.int _ n),h=>if 0<=n then if n<=h then some n.toNat else none else none
 | _,_=>none
def hiA:Option AV->Nat->Nat->Option Nat
 |none,len,_=>some len
 |some (.int _ n),_,cap=>if 0<=n then if n<=cap then some n.toNat else none else none
 | _,_,_=>none
def q0n (P:Program) (t:TypeId) (x:AV) (lo hi:Option AV):Option AV:=
 match P.underlying t with
 |some .string=>match x with
  | .str s=>match hiA hi s.length s.length with
   |some h=>match loA lo h with
    |some l=>some (.str ((s.take h).drop l))
    |none=>none
   |none=>none
  | _=>none
 |some (.slice e)=>match x,szT P e with
  | .sl a sz len cap ex,some s=>match hiA hi len cap with
   |some h=>match loA lo h with
    |some l=>match a with
     |some a=>if s=sz\/ex=true then some (.sl (some ⟨a.b,a.o+l*s⟩) s (h-l) (cap-l) ex) else none
     |none=>if cap=0 then some (.sl none s 0 0 ex) else none
    |none=>none
   |none=>none
  | _,_=>none
 |some (.array n e)=>match x,szT P e with
  | .ptr (some a),some s=>match hiA hi n n with
   |some h=>match loA lo h with
    |some l=>some (.sl (some ⟨a.b,a.o+l*s⟩) s (h-l) (n-l) true)
    |none=>none
   |none=>none
  | _,_=>none
 | _=>none
def q2V (P:Program) (t:TypeId) (x:AV) (lo:Option AV) (hi mx:AV):Option AV:=
 match P.underlying t with
 |some (.slice e)=>match x,szT P e with
  | .sl (some a) sz _ cap ex,some s=>match hiA (some mx) 0 cap with
   |some m=>match hiA (some hi) 0 m with
    |some h=>match loA lo h with
     |some l=>if s=sz\/ex=true then some (.sl (some ⟨a.b,a.o+l*s⟩) s (h-l) (m-l) true) else none
     |none=>none
    |none=>none
   |none=>none
  | _,_=>none
 | _=>none
def q56 (P:Program) (src dst:TypeId) (x:AV):Option AV:=
 match P.underlying src,P.underlying dst,x with
 |some _,some (.int k),.int _ n=>some (.int k (k.wrap n))
 |some .string,some .string,.str s=>some (.str s)
 | _,_,_=>none
def q0q (x:AV) (i:Nat):Option AV:=
 match x with
 | .tup vs=>vs[i]?
 | _=>none
def q8o (P:Program) (t:TypeId) (x:AV):Option AV:=
 match P.underlying t with
 |some (.interface _)|none=>none
 | _=>some (.iface t x)
def z0d (c a b:AV):Option AV:=
 match c with
 | .bool true=>some a
 | .bool false=>some b
 | _=>none
def q2Y (P:Program) (t:TypeId):Option (List AV):=
 match (P.info? t).bind (·.zero) with
 |some v=>(ofV v).bind AV.cells
 |none=>none
def q0p (place:Nat->Option (Nat×Nat)) (cs:List AV):List (Nat×AV)->Option (List AV)
 |[]=>some cs
 |(i,v)::rest=>
  match place i,v.cells with
  |some (off,size),some vs=>
   if vs.length=size then if off+size<=cs.length then q0p place (cs.take off++vs++cs.drop (off+size)) rest else none else none
  | _,_=>none
def q2a (P:Program) (t:List AV):List (Nat×Operand)->Option (List (Nat×AV))
 |[]=>some []
 |(i,x)::xs=>match ev P t x,q2a P t xs with
  |some a,some as=>some ((i,a)::as)
  | _,_=>none
def placesOf (P:Program):List Field->Option (List (Nat×Nat))
 |[]=>some []
 |f::fs=>match szT P f.type,placesOf P fs with
  |some n,some ps=>some ((f.offset,n)::ps)
  | _,_=>none
def q11 (P:Program) (t:TypeId) (parts:List (Nat×AV)):Option AV:=
 match P.underlying t,q2Y P t with
 |some (.struct fields),some zs=>match placesOf P fields.toList with
  |some ps=>(q0p (ps[·]?) zs parts).map AV.agg
  |none=>none
 |some (.array _ e),some zs=>match szT P e with
  |some s=>(q0p (fun i=>some (i*s,s)) zs parts).map AV.agg
  |none=>none
 | _,_=>none
def q2e (P:Program) (t:TypeId) (x:AV):Option AV:=
 match P.underlying t with
 |some .string=>match x with | .str s=>some (.int .i64 s.length) | _=>none
 |some (.array n _)=>some (.int .i64 n)
 |some (.slice _)=>match x with | .sl _ _ len _ _=>some (.int .i64 len) | _=>none
 | _=>none
def j0I (P:Program) (t:TypeId) (x:AV):Option AV:=
 match P.underlying t with
 |some (.slice _)=>match x with | .sl _ _ _ cap true=>some (.int .i64 cap) | _=>none
 | _=>none
def a6E (x y:AV):Option AV:=
 match x,y with
 | .int k a,.int _ b=>some (.int k (if b<a then b else a))
 | _,_=>none
def b0K (x y:AV):Option AV:=
 match x,y with
 | .int k a,.int _ b=>some (.int k (if a<b then b else a))
 | _,_=>none
inductive Cls where
 |p|r|a|e
 deriving DecidableEq
def cls (P:Program):Op->Cls
 | .load ..=>.r
 | .alloc _ | .box .. | .buildSlice .. | .makeSlice ..=>.a
 | .makeMap ..=>.a
 | .lookup ..=>.r
 | .entry _=>.r
 | .convert src dst _=>match P.underlying src,P.underlying dst with
  |some (.slice _),some .string=>.r
  | _,some (.slice _)=>.a
  | _,_=>.p
 | .move _ | .assign _ | .pick .. | .nilCheck _ | .binOp .. | .unOp .. | .fieldAddr .. | .field .. | .indexAddr .. | .index .. | .slice .. | .extract ..
 | .makeInterface .. | .makeFunc .. | .build ..=>.p
 | .call {callee:=.builtin b,argTypes:=ts,..}=>match b with
  | .len=>match (ts[0]?).bind P.underlying with
   |some (.map ..)=>.r
   | _=>.p
  | .cap | .min | .max=>.p
  | _=>.e
 | _=>.e
def q5f (P:Program) (op:Op) (t:List AV):Option AV:=
 match op with
 | .move x | .assign x=>ev P t x
 | .pick c a b=>(ev P t c).bind fun c=>(ev P t a).bind fun a=>(ev P t b).bind fun b=>z0d c a b
 | .nilCheck x=>(ev P t x).bind nnA
 | .binOp op xt x y _=>(ev P t x).bind fun a=>(ev P t y).bind fun b=>q0E P op xt a b
 | .unOp op _ x=>(ev P t x).bind (unA op)
 | .convert src dst x=>(ev P t x).bind (q56 P src dst)
 | .fieldAddr s x f=>(ev P t x).bind fun a=>q0o P s a f
 | .field s x f=>(ev P t x).bind fun a=>z9d P s a f
 | .indexAddr s x i=>(ev P t x).bind fun a=>(ev P t i).bind fun b=>q0A P s a b
 | .index s x i=>(ev P t x).bind fun a=>(ev P t i).bind fun b=>z0J P s a b
 | .slice s x lo hi none=>(ev P t x).bind fun a=>
  match lo,hi with
  |none,none=>q0n P s a none none
  |some lo,none=>(ev P t lo).bind fun l=>q0n P s a (some l) none
  |none,some hi=>(ev P t hi).bind fun h=>q0n P s a none (some h)
  |some lo,some hi=>(ev P t lo).bind fun l=>(ev P t hi).bind fun h=>q0n P s a (some l) (some h)
 | .slice s x lo (some hi) (some mx)=>(ev P t x).bind fun a=>(ev P t hi).bind fun h=>(ev P t mx).bind fun m=>
  match lo with
  |none=>q2V P s a none h m
  |some lo=>(ev P t lo).bind fun l=>q2V P s a (some l) h m
 | .extract x i=>(ev P t x).bind fun a=>q0q a i
 | .makeInterface xt x=>(ev P t x).bind (q8o P xt)
 | .makeFunc f first cap=>(evs P t first.toList).bind fun a=>(evs P t cap.toList).bind fun b=>some (.fn f a b)
 | .build s parts=>(q2a P t parts.toList).bind (q11 P s)
 | .call {callee:=.builtin .len,args:=⟨[x]⟩,argTypes:=⟨[s]⟩}=>(ev P t x).bind (q2e P s)
 | .call {callee:=.builtin .cap,args:=⟨[x]⟩,argTypes:=⟨[s]⟩}=>(ev P t x).bind (j0I P s)
 | .call {callee:=.builtin .min,args:=⟨[x,y]⟩,..}=>(ev P t x).bind fun a=>(ev P t y).bind (a6E a)
 | .call {callee:=.builtin .max,args:=⟨[x,y]⟩,..}=>(ev P t x).bind fun a=>(ev P t y).bind (b0K a)
 | _=>none
def q41:List AV->Option (List UInt8)
 |[]=>some []
 | .int .u8 n::cs=>(q41 cs).map (UInt8.ofNat n.toNat::·)
 | _=>none
def q1H (P:Program) (t:TypeId) (x:AV) (m:Mem):Option AV:=
 match P.underlying t with
 |none=>none
 |some _=>if z9I P t then (szT P t).bind (ldN m x) else ld1 m x
def q7V (P:Program) (src:TypeId) (x:AV) (m:Mem):Option AV:=
 match P.underlying src with
 |some (.slice e)=>match P.underlying e with
  |some (.int .u8)=>match x with
   | .sl none _ _ _ _=>some (.str [])
   | .sl (some a) _ len _ _=>((q0C m a len).bind q41).map AV.str
   | _=>none
  | _=>none
 | _=>none
def q6d (d:TypeDesc):AV->AV->Option Bool
 | .int k a,.int k' b=>match d with
  | .int _=>if k=k' then some (a==b) else none
  | _=>none
 | .str a,.str b=>match d with
  | .string=>some (a==b)
  | _=>none
 | _,_=>none
def z2c (d:TypeDesc) (k:AV):List (AV×AV)->Option (Option AV)
 |[]=>some none
 |(k',v)::es=>match q6d d k k',z2c d k es with
  |some true,some none=>some (some v)
  |some false,some r=>some r
  | _,_=>none
def b0L (d:TypeDesc) (k v:AV) (es:List (AV×AV)):List (AV×AV):=es.map fun e=>if q6d d k e.1=some true then (k,v) else e
def b4J:AV->AV->Bool
 | .int _ a,.int _ b=>decide (a<b)
 | .str a,.str b=>List.rec (motive:=fun _=>List UInt8->Bool) (fun b=>!b.isEmpty) (fun x _ ih b=>match b with | []=>false|y::b=>if x.toNat=y.toNat then ih b else decide (x.toNat<y.toNat)) a b
 | _,_=>false
def b70 (k v:AV) (es:List (AV×AV)):List (AV×AV):=List.rec [(k,v)] (fun e es ih=>if b4J k e.1 then (k,v)::e::es else e::ih) es
theorem z5g (k v:AV):∀es:List (AV×AV),(es++[(k,v)]).Perm (b70 k v es)
 |[]=>.refl _
 |e::es=>by
  show (e::(es++[(k,v)])).Perm (if b4J k e.1 then (k,v)::e::es else e::b70 k v es)
  split
  ·exact List.perm_append_singleton (k,v) (e::es)
  ·exact .cons _ (z5g k v es)
def b8j (d:TypeDesc) (k v:AV) (es:List (AV×AV)):Option (List (AV×AV)):=
 match z2c d k es with
 |some none=>some (b70 k v es)
 |some (some _)=>some (b0L d k v es)
 |none=>none
def b8i (d:TypeDesc) (k:AV) (es:List (AV×AV)):Option (List (AV×AV)):=
 match z2c d k es with
 |some _=>some (es.filter fun e=>!(q6d d k e.1==some true))
 |none=>none
def mapOf (m:Mem) (x:AV):Option (List (AV×AV)):=
 match x with
 | .map none=>some []
 | .map (some b)=>match m.get b with
  |some (.map es)=>some es
  | _=>none
 | _=>none
def zeroV (P:Program) (t:TypeId):Option AV:=((P.info? t).bind (·.zero)).bind ofV
def q5c (P:Program) (t:TypeId) (x k:AV) (ok:Bool) (m:Mem):Option AV:=
 match P.underlying t with
 |some (.map key elem)=>(P.underlying key).bind fun d=>(mapOf m x).bind fun es=>(q6d d k k).bind fun _=>(z2c d k es).bind fun r=>
  match r with
  |some v=>some (if ok then .tup [v,.bool true] else v)
  |none=>(zeroV P elem).map fun v=>if ok then .tup [v,.bool false] else v
 | _=>none
def b4M (P:Program) (t:TypeId) (x:AV) (m:Mem):Option AV:=
 match P.underlying t with
 |some (.map ..)=>(mapOf m x).map fun es=>.int .i64 es.length
 | _=>none
def z3G (x:AV) (m:Mem):Option AV:=
 match x with
 | .ptr (some a)=>match a.o,m.get a.b with
  | 0,some (.iter b _ (some e))=>match m.get b with
   |some (.rmap _ c)=>if c=a.b then some (.tup [e.1,e.2]) else none
   | _=>none
  | _,_=>none
 | _=>none
def q9H (P:Program) (t:TypeId) (x:AV) (m:Mem):R:=
 match P.underlying t,x with
 |some (.map ..),.map (some b)=>match m.get b with
  |some (.map es)=>some (.ptr (some ⟨m.next,0⟩),(m.lay (.iter b es none)).put b (some (.rmap es m.next)))
  | _=>none
 | _,_=>none
def q1r (P:Program) (op:Op) (t:List AV) (m:Mem):Option AV:=
 match op with
 | .load s x=>(ev P t x).bind fun a=>q1H P s a m
 | .convert src _ x=>(ev P t x).bind fun a=>q7V P src a m
 | .lookup s x k ok=>(ev P t x).bind fun a=>(ev P t k).bind fun k=>q5c P s a k ok m
 | .entry x=>(ev P t x).bind fun a=>z3G a m
 | .call {callee:=.builtin .len,args:=⟨[x]⟩,argTypes:=⟨[s]⟩}=>(ev P t x).bind fun a=>b4M P s a m
 | _=>none
def q37 (P:Program) (t:TypeId) (x k v:AV) (m:Mem):Option Mem:=
 match P.underlying t,x with
 |some (.map key _),.map (some b)=>(P.underlying key).bind fun d=>match m.get b with
  |some (.map es)=>(q6d d k k).bind fun _=>(b8j d k v es).map fun es'=>m.put b (some (.map es'))
  | _=>none
 | _,_=>none
def q6W (P:Program) (t:TypeId) (x k:AV) (m:Mem):Option Mem:=
 match P.underlying t,x with
 |some (.map key _),.map (some b)=>(P.underlying key).bind fun d=>match m.get b with
  |some (.map es)=>(q6d d k k).bind fun _=>(b8i d k es).map fun es'=>m.put b (some (.map es'))
  | _=>none
 | _,_=>none
def q8Q (P:Program) (t:TypeId) (x:AV) (m:Mem):Option Mem:=
 match P.underlying t with
 |some (.slice e)=>match x with
  | .sl none _ 0 _ _=>some m
  | .sl (some a) sz len _ ex=>(q2Y P e).bind fun zs=>(szT P e).bind fun n=>
   if len=0 then some m else if (n=sz\/ex=true)/\zs.length=n then q1l m a (List.replicate len zs).flatten else none
  | _=>none
 | _=>none
def q0j:Nat:=140737488355328
def q3h (P:Program) (op:Op) (t:List AV):Option (Blk×(Nat->AV)):=
 match op with
 | .alloc e=>(q2Y P e).map fun cs=>(.cells cs false,fun b=>.ptr (some ⟨b,0⟩))
 | .box _ x=>((ev P t x).bind AV.cells).map fun cs=>(.cells cs false,fun b=>.ptr (some ⟨b,0⟩))
 | .makeMap s none=>match P.underlying s with
  |some (.map ..)=>some (.map [],fun b=>.map (some b))
  | _=>none
 | .buildSlice s len parts=>
  match P.underlying s with
  |some (.slice e)=>match szT P e,q2Y P e with
   |some n,some zs=>if len*n<=16777216/\zs.length=n then (q2a P t parts.toList).bind fun ps=>
     (q0p (fun i=>some (i*n,n)) (List.replicate len zs).flatten ps).map fun cs=>(.cells cs false,fun b=>.sl (some ⟨b,0⟩) n len len true) else none
   | _,_=>none
  | _=>none
 | .makeSlice s l c=>(ev P t l).bind fun l=>(ev P t c).bind fun c=>
  match P.underlying s,l,c with
  |some (.slice e),.int .i64 l,.int .i64 c=>match szT P e,q2Y P e,q5Y P e with
   |some n,some zs,some w=>
    if 0<=l/\l<=c/\c<9223372036854775808/\c.toNat*w<=q0j/\zs.length=n then
     some (.cells (List.replicate c.toNat zs).flatten false,fun b=>.sl (some ⟨b,0⟩) n l.toNat c.toNat true) else none
   | _,_,_=>none
  | _,_,_=>none
 | .convert src dst x=>(ev P t x).bind fun x=>
  match (P.underlying src).isSome,P.underlying dst,x with
  |true,some (.slice e),.str s=>match P.underlying e,szT P e with
   |some (.int .u8),some 1=>some (.cells (s.map fun c=>.int .u8 c.toNat) true,fun b=>.sl (some ⟨b,0⟩) 1 s.length s.length false)
   | _,_=>none
  | _,_,_=>none
 | _=>none
def q5Q (sz:Nat) (x:AV) (m:Mem):Option (Nat×List AV):=
 match x with
 | .sl none _ 0 _ _=>some (0,[])
 | .sl (some a) s len _ ex=>if s=sz\/ex=true then (q0C m a (len*sz)).map fun cs=>(len,cs) else none
 | .str s=>if sz=1 then some (s.length,s.map fun c=>.int .u8 c.toNat) else none
 | _=>none
def q0H (sz w:Nat) (s x:AV) (m:Mem):R:=
 match q5Q sz x m with
 |none=>none
 |some (n,new)=>
  if ¬new.all AV.one then none else
  match s with
  | .sl none _ 0 0 ex=>
   if n=0 then some (.sl none sz 0 0 ex,m)
   else if n*w<=q0j then some (.sl (some ⟨m.next,0⟩) sz n n false,m.alloc new) else none
  | .sl (some a) s' len cap ex=>
   if s'=sz\/ex=true then
    if len+n<=cap then (q1l m ⟨a.b,a.o+len*sz⟩ new).map fun m'=>(.sl (some a) sz (len+n) cap ex,m')
    else if (len+n)*w<=q0j then
     match q0C m a (len*sz) with
     |some old=>
      if ex then some (.sl (some ⟨m.next,0⟩) sz (len+n) (len+n) false,m.alloc (old++new))
      else match m.get a.b with
       |some (.cells _ false)=>some (.sl (some ⟨m.next,0⟩) sz (len+n) (len+n) false,(m.put a.b none).alloc (old++new))
       | _=>none
     |none=>none
    else none
   else none
  | _=>none
def q19 (P:Program) (st:TypeId) (s x:AV) (m:Mem):R:=
 match P.underlying st with
 |some (.slice e)=>(q2Y P e).bind fun zs=>(szT P e).bind fun n=>(q5Y P e).bind fun w=>
  match s,x with
  | .sl (some a) _ len cap true,.int _ k=>
   if 0<k/\zs.length=n/\0<n/\0<w/\0<cap/\len<=cap/\cap<len+k.toNat/\(len+k.toNat)*w<=q0j then
    (q0C m a (len*n)).map fun old=>(.sl (some ⟨m.next,0⟩) n (len+k.toNat) (len+k.toNat) false,m.alloc (old++(List.replicate k.toNat zs).flatten)) else none
  | _,_=>none
 | _=>none
def q1p (sz:Nat) (d x:AV) (m:Mem):R:=
 match d,q5Q sz x m with
 | .sl a s len _ ex,some (n,cs)=>
  if min n len=0 then some (.int .i64 0,m) else
  match a with
  |some a=>if s=sz\/ex=true then (if (cs.take (min n len*sz)).all AV.one then (q1l m a (cs.take (min n len*sz))).map fun m'=>(.int .i64 (min n len:Nat),m') else none) else none
  |none=>none
 | _,_=>none
end
end Go.Abs
