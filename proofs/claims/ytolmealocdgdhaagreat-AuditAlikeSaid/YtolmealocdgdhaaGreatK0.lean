/- Texts of one claim, put together. -/
import Derived.Calls
section
namespace Go.Abs
open Go

structure AA where
  b : Nat
  o : Nat
  deriving DecidableEq

inductive AV where
  | undef
  | bool (b : Bool)
  | int (k : IntKind) (n : Int)
  | str (s : List UInt8)
  | ptr (a : Option AA)
  | sl (a : Option AA) (sz len cap : Nat) (ex : Bool)
  | map (r : Option Nat)
  | fn (f : Fn) (first captured : List AV)
  | yld (b : Nat)
  | nilFn
  | iface (t : TypeId) (v : AV)
  | nilIface
  | agg (cs : List AV)
  | tup (vs : List AV)

instance : Inhabited AV := ⟨.undef⟩

mutual
def AV.beq : AV → AV → Bool
  | .undef, .undef => true
  | .bool a, .bool b => a == b
  | .int j a, .int k b => decide (j = k) && decide (a = b)
  | .str a, .str b => decide (a = b)
  | .ptr a, .ptr b => decide (a = b)
  | .sl a s l c e, .sl a' s' l' c' e' => decide (a = a') && decide (s = s') && decide (l = l') && decide (c = c') && decide (e = e')
  | .map a, .map b => decide (a = b)
  | .fn f x y, .fn g z u => decide (f = g) && AV.beqs x z && AV.beqs y u
  | .yld a, .yld b => decide (a = b)
  | .nilFn, .nilFn => true
  | .iface t v, .iface u w => decide (t = u) && AV.beq v w
  | .nilIface, .nilIface => true
  | .agg a, .agg b => AV.beqs a b
  | .tup a, .tup b => AV.beqs a b
  | _, _ => false
def AV.beqs : List AV → List AV → Bool
  | [], [] => true
  | a :: as, b :: bs => AV.beq a b && AV.beqs as bs
  | _, _ => false
end

mutual
theorem AV.eq_of_beq : ∀ {a b : AV}, AV.beq a b = true → a = b
  | .undef, b, h => by cases b <;> simp_all [AV.beq]
  | .bool _, b, h => by cases b <;> simp_all [AV.beq]
  | .int .., b, h => by cases b <;> simp_all [AV.beq]
  | .str _, b, h => by cases b <;> simp_all [AV.beq]
  | .ptr _, b, h => by cases b <;> simp_all [AV.beq]
  | .sl .., b, h => by cases b <;> simp_all [AV.beq]
  | .map _, b, h => by cases b <;> simp_all [AV.beq]
  | .yld _, b, h => by cases b <;> simp_all [AV.beq]
  | .fn f x y, b, h => by
    cases b with
    | fn g z u =>
      simp only [AV.beq, Bool.and_eq_true, decide_eq_true_eq] at h
      rw [h.1.1, AV.eqs_of_beqs h.1.2, AV.eqs_of_beqs h.2]
    | _ => simp [AV.beq] at h
  | .nilFn, b, h => by cases b <;> simp_all [AV.beq]
  | .iface t v, b, h => by
    cases b with
    | iface u w =>
      simp only [AV.beq, Bool.and_eq_true, decide_eq_true_eq] at h
      rw [h.1, AV.eq_of_beq h.2]
    | _ => simp [AV.beq] at h
  | .nilIface, b, h => by cases b <;> simp_all [AV.beq]
  | .agg a, b, h => by
    cases b with
    | agg c => simp only [AV.beq] at h; rw [AV.eqs_of_beqs h]
    | _ => simp [AV.beq] at h
  | .tup a, b, h => by
    cases b with
    | tup c => simp only [AV.beq] at h; rw [AV.eqs_of_beqs h]
    | _ => simp [AV.beq] at h
theorem AV.eqs_of_beqs : ∀ {a b : List AV}, AV.beqs a b = true → a = b
  | [], [], _ => rfl
  | a :: as, b :: bs, h => by
    simp only [AV.beqs, Bool.and_eq_true] at h
    rw [AV.eq_of_beq h.1, AV.eqs_of_beqs h.2]
  | [], _ :: _, h => by simp [AV.beqs] at h
  | _ :: _, [], h => by simp [AV.beqs] at h
end

mutual
theorem AV.beq_refl : ∀ a : AV, AV.beq a a = true
  | .undef | .bool _ | .int .. | .str _ | .ptr _ | .sl .. | .map _ | .yld _ | .nilFn | .nilIface => by simp [AV.beq]
  | .fn f x y => by simp [AV.beq, AV.beqs_refl x, AV.beqs_refl y]
  | .iface t v => by simp [AV.beq, AV.beq_refl v]
  | .agg a => by simp [AV.beq, AV.beqs_refl a]
  | .tup a => by simp [AV.beq, AV.beqs_refl a]
theorem AV.beqs_refl : ∀ a : List AV, AV.beqs a a = true
  | [] => rfl
  | a :: as => by simp [AV.beqs, AV.beq_refl a, AV.beqs_refl as]
end

instance : DecidableEq AV := fun a b => if h : AV.beq a b = true then .isTrue (AV.eq_of_beq h) else .isFalse fun e => h (e ▸ AV.beq_refl a)

def AV.one : AV → Bool
  | .undef | .agg _ | .tup _ => false
  | _ => true

def AV.part : AV → Bool
  | .agg _ | .tup _ => false
  | _ => true

def AV.cells : AV → Option (List AV)
  | .agg cs => if cs.all AV.one then some cs else none
  | .undef | .tup _ => none
  | v => some [v]

inductive Jmp where
  | ret
  | exit (id : Nat)
  deriving DecidableEq

inductive AC where
  | skip
  | region (id : Nat) (ops : List Oper) (draw : Bool) (chk anc : List (List Nat))
  | seq (a b : AC)
  | cond (c : Operand) (thn els : AC)
  | block (id : Nat) (body : AC)
  | loop (body : AC)
  | rangeFunc (f : Operand) (params : List Tmp) (assign body : AC)
  | scope (body : AC)
  | exit (id : Nat)
  | ret
  | pt (live : List Bool) (c : AC)
  | other (c : Code)

def AC.erase : AC → Code
  | .skip => .skip
  | .region id ops draw _ _ => .region id ⟨ops⟩ draw
  | .seq a b => .seq a.erase b.erase
  | .cond c x y => .cond c x.erase y.erase
  | .block id b => .block id b.erase
  | .loop b => .loop b.erase
  | .rangeFunc f ps a b => .rangeFunc f ⟨ps⟩ a.erase b.erase
  | .scope b => .scope b.erase
  | .exit id => .exit id
  | .ret => .ret
  | .pt _ c => c.erase
  | .other c => c

def Jmp.code : Jmp → AC
  | .ret => .ret
  | .exit id => .exit id

structure LoopA where
  state : LoopState
  pending : Option Jmp
  tmps : List AV
  params : List Tmp
  assign : AC
  body : AC

inductive Blk where
  | cells (cs : List AV) (ro : Bool)
  | loop (l : LoopA)
  | map (es : List (AV × AV))
  | rmap (es : List (AV × AV)) (c : Nat)
  | iter (b : Nat) (left : List (AV × AV)) (cur : Option (AV × AV))

inductive PT where
  | leaf
  | node (v : Option Blk) (l r : PT)

noncomputable def PT.get (t : PT) (k : Nat) : Option Blk :=
  PT.rec (motive := fun _ => Nat → Option Blk) (fun _ => none)
    (fun v _ _ l r k => Bool.rec (motive := fun _ => Option Blk) (Bool.rec (motive := fun _ => Option Blk) (r (Nat.pred (Nat.div k 2))) (l (Nat.div k 2)) (Nat.beq (Nat.mod k 2) 1)) v (Nat.beq k 0)) t k

def PT.val : PT → Option Blk
  | .leaf => none
  | .node v _ _ => v
def PT.lft : PT → PT
  | .leaf => .leaf
  | .node _ l _ => l
def PT.rgt : PT → PT
  | .leaf => .leaf
  | .node _ _ r => r

noncomputable def PT.setN (f : Nat) (t : PT) (k : Nat) (v : Option Blk) : PT :=
  Nat.rec (motive := fun _ => PT → Nat → PT) (fun t _ => .node v t.lft t.rgt)
    (fun _ ih t k => Bool.rec (motive := fun _ => PT) (Bool.rec (motive := fun _ => PT) (.node t.val t.lft (ih t.rgt (Nat.pred (Nat.div k 2)))) (.node t.val (ih t.lft (Nat.div k 2)) t.rgt) (Nat.beq (Nat.mod k 2) 1)) (.node v t.lft t.rgt) (Nat.beq k 0)) f t k

noncomputable def PT.set (t : PT) (k : Nat) (v : Option Blk) : PT := PT.setN k t k v

theorem beqN (a b : Nat) : Nat.beq a b = decide (a = b) := by
  by_cases h : a = b
  · subst h; rw [Nat.beq_refl]; simp
  · rw [decide_eq_false h]; cases e : Nat.beq a b with
    | false => rfl
    | true => exact absurd (Nat.eq_of_beq_eq_true e) h
theorem PT.get_leaf (k : Nat) : PT.leaf.get k = none := rfl
theorem PT.get_node' (v : Option Blk) (l r : PT) (k : Nat) : (PT.node v l r).get k = if k = 0 then v else if k % 2 = 1 then l.get (k / 2) else r.get (k / 2 - 1) := by
  have hu : (PT.node v l r).get k = Bool.rec (motive := fun _ => Option Blk) (Bool.rec (motive := fun _ => Option Blk) (r.get (Nat.pred (Nat.div k 2))) (l.get (Nat.div k 2)) (Nat.beq (Nat.mod k 2) 1)) v (Nat.beq k 0) := rfl
  rw [hu, beqN, beqN]
  by_cases h : k = 0
  · rw [decide_eq_true h, if_pos h]
  · rw [decide_eq_false h, if_neg h]
    by_cases h2 : k % 2 = 1
    · rw [decide_eq_true (show Nat.mod k 2 = 1 from h2), if_pos h2]; rfl
    · rw [decide_eq_false (show ¬ Nat.mod k 2 = 1 from h2), if_neg h2]; rfl
theorem PT.setN_succ (f : Nat) (t : PT) (k : Nat) (v : Option Blk) : PT.setN (f + 1) t k v = if k = 0 then .node v t.lft t.rgt else if k % 2 = 1 then .node t.val (PT.setN f t.lft (k / 2) v) t.rgt else .node t.val t.lft (PT.setN f t.rgt (k / 2 - 1) v) := by
  have hu : PT.setN (f + 1) t k v = Bool.rec (motive := fun _ => PT) (Bool.rec (motive := fun _ => PT) (.node t.val t.lft (PT.setN f t.rgt (Nat.pred (Nat.div k 2)) v)) (.node t.val (PT.setN f t.lft (Nat.div k 2) v) t.rgt) (Nat.beq (Nat.mod k 2) 1)) (.node v t.lft t.rgt) (Nat.beq k 0) := rfl
  rw [hu, beqN, beqN]
  by_cases h : k = 0
  · rw [decide_eq_true h, if_pos h]
  · rw [decide_eq_false h, if_neg h]
    by_cases h2 : k % 2 = 1
    · rw [decide_eq_true (show Nat.mod k 2 = 1 from h2), if_pos h2]; rfl
    · rw [decide_eq_false (show ¬ Nat.mod k 2 = 1 from h2), if_neg h2]; rfl

theorem PT.get_node (t : PT) (k : Nat) : t.get k = if k = 0 then t.val else if k % 2 = 1 then t.lft.get (k / 2) else t.rgt.get (k / 2 - 1) := by
  cases t with
  | leaf => simp [PT.get, PT.val, PT.lft, PT.rgt]
  | node v l r => exact PT.get_node' v l r k

theorem PT.get_setN : ∀ (f : Nat) (t : PT) (k : Nat) (v : Option Blk) (j : Nat), k ≤ f → (PT.setN f t k v).get j = if j = k then v else t.get j
  | 0, t, k, v, j, h => by
    have hk : k = 0 := by omega
    subst hk
    have hu : PT.setN 0 t 0 v = .node v t.lft t.rgt := rfl
    rw [PT.get_node t j, hu, PT.get_node']
    by_cases hj : j = 0 <;> simp [hj]
  | f + 1, t, k, v, j, h => by
    rw [PT.get_node t j, PT.setN_succ]
    by_cases hk : k = 0
    · subst hk; rw [if_pos rfl, PT.get_node']; by_cases hj : j = 0 <;> simp [hj]
    · simp only [if_neg hk]
      by_cases hk2 : k % 2 = 1
      · simp only [if_pos hk2]
        rw [PT.get_node', PT.get_setN f t.lft (k / 2) v (j / 2) (by omega)]
        by_cases hj : j = 0
        · simp only [hj, if_true]; rw [if_neg (by omega)]
        · simp only [if_neg hj]
          by_cases hj2 : j % 2 = 1
          · simp only [if_pos hj2]
            by_cases e : j = k
            · subst e; simp
            · rw [if_neg (by omega), if_neg e]
          · simp only [if_neg hj2]; rw [if_neg (by omega)]
      · simp only [if_neg hk2]
        rw [PT.get_node', PT.get_setN f t.rgt (k / 2 - 1) v (j / 2 - 1) (by omega)]
        by_cases hj : j = 0
        · simp only [hj, if_true]; rw [if_neg (by omega)]
        · simp only [if_neg hj]
          by_cases hj2 : j % 2 = 1
          · simp only [if_pos hj2]; rw [if_neg (by omega)]
          · simp only [if_neg hj2]
            by_cases e : j = k
            · subst e; simp
            · rw [if_neg (by omega), if_neg e]

structure Mem where
  next : Nat
  tab : PT

noncomputable def Mem.get (m : Mem) (b : Nat) : Option Blk := Bool.rec (motive := fun _ => Option Blk) none (m.tab.get b) (Nat.ble (Nat.succ b) m.next)
theorem Mem.get_def (m : Mem) (b : Nat) : m.get b = if b < m.next then m.tab.get b else none := by
  unfold Mem.get
  by_cases h : b < m.next
  · rw [if_pos h, Nat.ble_eq_true_of_le h]
  · rw [if_neg h]; cases e : Nat.ble (Nat.succ b) m.next with
    | false => rfl
    | true => exact absurd (Nat.le_of_ble_eq_true e) h
noncomputable def Mem.lay (m : Mem) (v : Blk) : Mem := ⟨m.next + 1, m.tab.set m.next (some v)⟩
noncomputable abbrev Mem.alloc (m : Mem) (cs : List AV) : Mem := m.lay (.cells cs false)
noncomputable def Mem.put (m : Mem) (b : Nat) (v : Option Blk) : Mem := ⟨m.next, m.tab.set b v⟩

theorem PT.get_set (t : PT) (k : Nat) (v : Option Blk) (j : Nat) : (t.set k v).get j = if j = k then v else t.get j := PT.get_setN k t k v j (Nat.le_refl k)

@[simp] theorem Mem.next_lay (m : Mem) (v : Blk) : (m.lay v).next = m.next + 1 := rfl
theorem Mem.next_alloc (m : Mem) (cs : List AV) : (m.alloc cs).next = m.next + 1 := rfl
@[simp] theorem Mem.next_put (m : Mem) (b : Nat) (v : Option Blk) : (m.put b v).next = m.next := rfl
theorem Mem.get_lay (m : Mem) (v : Blk) (b : Nat) : (m.lay v).get b = if b = m.next then some v else m.get b := by
  simp only [Mem.get_def, Mem.lay, PT.get_set]
  by_cases h : b = m.next
  · subst h; simp
  · simp only [if_neg h]
    by_cases h2 : b < m.next
    · rw [if_pos h2, if_pos (by omega)]
    · rw [if_neg h2, if_neg (by omega)]
theorem Mem.get_alloc (m : Mem) (cs : List AV) (b : Nat) : (m.alloc cs).get b = if b = m.next then some (.cells cs false) else m.get b := Mem.get_lay m _ b
theorem Mem.get_put (m : Mem) (b : Nat) (v : Option Blk) (c : Nat) : (m.put b v).get c = if c = b ∧ b < m.next then v else m.get c := by
  simp only [Mem.get_def, Mem.put, PT.get_set]
  by_cases h : c = b
  · subst h
    by_cases h2 : c < m.next <;> simp [h2]
  · simp [h]
theorem Mem.get_lt {m : Mem} {b : Nat} {v : Blk} (h : m.get b = some v) : b < m.next := by
  rw [Mem.get_def] at h
  by_cases hb : b < m.next
  · exact hb
  · simp [hb] at h
theorem Mem.get_ge {m : Mem} {b : Nat} (h : m.next ≤ b) : m.get b = none := by
  rw [Mem.get_def, if_neg (by omega)]

noncomputable def ldCells (m : Mem) (a : AA) (n : Nat) : Option (List AV) :=
  match m.get a.b with
  | some (.cells cs _) => if a.o + n ≤ cs.length then some ((cs.drop a.o).take n) else none
  | _ => none
noncomputable def stCells (m : Mem) (a : AA) (vs : List AV) : Option Mem :=
  match m.get a.b with
  | some (.cells cs false) => if a.o + vs.length ≤ cs.length then some (m.put a.b (some (.cells (cs.take a.o ++ vs ++ cs.drop (a.o + vs.length)) false))) else none
  | _ => none

noncomputable def ld1 (m : Mem) (v : AV) : Option AV :=
  match v with
  | .ptr (some a) => match m.get a.b with
    | some (.cells cs _) => cs[a.o]?
    | _ => none
  | _ => none
noncomputable def ldN (m : Mem) (v : AV) (n : Nat) : Option AV :=
  match v with
  | .ptr (some a) => (ldCells m a n).map AV.agg
  | _ => none
noncomputable def stV (m : Mem) (p v : AV) (n : Nat) : Option Mem :=
  match p with
  | .ptr (some a) => match v.cells with
    | some cs => if cs.length = n then stCells m a cs else none
    | none => none
  | _ => none

def ofV : Value → Option AV
  | .bool b => some (.bool b)
  | .int k n => some (.int k n)
  | .string s => some (.str s.data.toList)
  | .pointer none => some (.ptr none)
  | .slice none 0 0 => some (.sl none 0 0 0 true)
  | .map none => some (.map none)
  | .func f ⟨[]⟩ ⟨[]⟩ => some (.fn f [] [])
  | .nilFunc => some .nilFn
  | .nilIface => some .nilIface
  | .agg ⟨cs⟩ => (ofParts cs).map AV.agg
  | _ => none
 where
  ofPart : Value → Option AV
    | .bool b => some (.bool b)
    | .int k n => some (.int k n)
    | .string s => some (.str s.data.toList)
    | .pointer none => some (.ptr none)
    | .slice none 0 0 => some (.sl none 0 0 0 true)
    | .map none => some (.map none)
    | .nilFunc => some .nilFn
    | .nilIface => some .nilIface
    | _ => none
  ofParts : List Value → Option (List AV)
    | [] => some []
    | v :: vs => match ofPart v, ofParts vs with
      | some a, some as => some (a :: as)
      | _, _ => none

noncomputable def nth (l : List AV) : Nat → AV := List.rec (motive := fun _ => Nat → AV) (fun _ => .undef) (fun a _ ih k => Nat.rec (motive := fun _ => AV) a (fun j _ => ih j) k) l
noncomputable def setF (l : List AV) (k : Nat) (v : AV) : List AV := List.rec (motive := fun _ => Nat → List AV) (fun _ => []) (fun a t ih k => Nat.rec (motive := fun _ => List AV) (v :: t) (fun j _ => a :: ih j) k) l k
theorem nth_eq : ∀ (l : List AV) (k : Nat), nth l k = l.getD k .undef
  | [], k => by simp [nth]
  | _ :: _, 0 => rfl
  | a :: l, k + 1 => by
    have hu : nth (a :: l) (k + 1) = nth l k := rfl
    rw [hu, nth_eq l k]; simp
theorem setF_eq : ∀ (l : List AV) (k : Nat) (v : AV), setF l k v = l.set k v
  | [], k, v => rfl
  | _ :: _, 0, _ => rfl
  | a :: l, k + 1, v => by
    have hu : setF (a :: l) (k + 1) v = a :: setF l k v := rfl
    rw [hu, setF_eq l k v]; rfl

noncomputable def ev (P : Program) (t : List AV) : Operand → Option AV
  | .tmp i => some (nth t i)
  | .const v => ofV v
  | .global g => if g < P.globals.size then some (.ptr (some ⟨g, 0⟩)) else none
  | .func f => some (.fn (.func f) [] [])

noncomputable def evs (P : Program) (t : List AV) : List Operand → Option (List AV)
  | [] => some []
  | x :: xs => match ev P t x, evs P t xs with
    | some a, some as => some (a :: as)
    | _, _ => none

end Go.Abs
end
section
namespace Go.Abs
open Go

def isAggT (P : Program) (t : TypeId) : Bool :=
  match P.underlying t with
  | some (.struct _) | some (.array ..) => true
  | _ => false
def szT (P : Program) (t : TypeId) : Option Nat := (P.info? t).map (·.size)
def bytesT (P : Program) (t : TypeId) : Option Nat := (P.info? t).map (·.bytes)

abbrev R := Option (AV × Mem)

def strLess : List UInt8 → List UInt8 → Bool
  | _, [] => false
  | [], _ :: _ => true
  | a :: x, b :: y => decide (a < b) || (decide (a = b) && strLess x y)

def intA (op : BinOp) (k : IntKind) (x y : Int) : Option AV :=
  match op with
  | .add => some (.int k (k.wrap (x + y)))
  | .sub => some (.int k (k.wrap (x - y)))
  | .mul => some (.int k (k.wrap (x * y)))
  | .quo => if y = 0 then none else some (.int k (k.wrap (x.tdiv y)))
  | .rem => if y = 0 then none else some (.int k (x.tmod y))
  | .and => some (.int k (k.wrap (BitVec.ofInt k.bits x &&& BitVec.ofInt k.bits y).toNat))
  | .or => some (.int k (k.wrap (BitVec.ofInt k.bits x ||| BitVec.ofInt k.bits y).toNat))
  | .xor => some (.int k (k.wrap (BitVec.ofInt k.bits x ^^^ BitVec.ofInt k.bits y).toNat))
  | .andNot => some (.int k (k.wrap (BitVec.ofInt k.bits x &&& ~~~(BitVec.ofInt k.bits y)).toNat))
  | .eql => some (.bool (x == y))
  | .neq => some (.bool (x != y))
  | .lss => some (.bool (decide (x < y)))
  | .leq => some (.bool (decide (x ≤ y)))
  | .gtr => some (.bool (decide (x > y)))
  | .geq => some (.bool (decide (x ≥ y)))
  | _ => none

def strA (op : BinOp) (x y : List UInt8) : Option AV :=
  match op with
  | .add => if x.length + y.length ≤ 4611686018427387904 then some (.str (x ++ y)) else none
  | .eql => some (.bool (x == y))
  | .neq => some (.bool !(x == y))
  | .lss => some (.bool (strLess x y))
  | .leq => some (.bool (strLess x y || x == y))
  | .gtr => some (.bool (!(strLess x y || x == y)))
  | .geq => some (.bool (!strLess x y))
  | _ => none

def shA (op : BinOp) (k : IntKind) (a b : Int) : Option AV :=
  if b < 0 then none else
  match op with
  | .shl => some (.int k (k.wrap (a * 2 ^ (min b.toNat k.bits))))
  | .shr => some (.int k (a.fdiv (2 ^ (min b.toNat k.bits))))
  | _ => none

def partA (P : Program) (t : TypeId) (cs : List AV) (off : Nat) : Option AV :=
  match P.underlying t with
  | none => none
  | some _ => if isAggT P t then
      match szT P t with
      | some n => if off + n ≤ cs.length then some (.agg ((cs.drop off).take n)) else none
      | none => none
    else cs[off]?

def eqFields (P : Program) (eq : TypeId → AV → AV → Option Bool) : List Field → List AV → List AV → Option Bool
    | [], _, _ => some true
    | f :: fs, xs, ys =>
      if f.name = "_" then eqFields P eq fs xs ys else
      match partA P f.type xs f.offset, partA P f.type ys f.offset with
      | some a, some b => match eq f.type a b with
        | some true => eqFields P eq fs xs ys
        | some false => some false
        | none => none
      | _, _ => none
def eqElems (P : Program) (eq : TypeId → AV → AV → Option Bool) (elem : TypeId) (n : Nat) (xs ys : List AV) : Nat → Nat → Option Bool
    | 0, _ => some true
    | k + 1, i =>
      match partA P elem xs (i * n), partA P elem ys (i * n) with
      | some a, some b => match eq elem a b with
        | some true => eqElems P eq elem n xs ys k (i + 1)
        | some false => some false
        | none => none
      | _, _ => none
def eqBool : AV → AV → Option Bool
  | .bool a, .bool b => some (a == b)
  | _, _ => none
def eqInt : AV → AV → Option Bool
  | .int k a, .int k' b => if k = k' then some (a == b) else none
  | _, _ => none
def eqStr : AV → AV → Option Bool
  | .str a, .str b => some (a == b)
  | _, _ => none
def eqPtr : AV → AV → Option Bool
  | .ptr none, .ptr b => some b.isNone
  | .ptr (some _), .ptr none => some false
  | _, _ => none
def eqSl : AV → AV → Option Bool
  | .sl none _ _ _ true, .sl none _ _ _ true => some true
  | .sl none _ _ _ true, .sl (some _) _ _ _ _ => some false
  | .sl (some _) _ _ _ _, .sl none _ _ _ true => some false
  | _, _ => none
def eqMap : AV → AV → Option Bool
  | .map none, .map b => some b.isNone
  | .map (some _), .map none => some false
  | _, _ => none
def eqFn : AV → AV → Option Bool
  | .nilFn, .nilFn => some true
  | .nilFn, .fn .. => some false
  | .fn .., .nilFn => some false
  | _, _ => none
def eqIface : AV → AV → Option Bool
  | .nilIface, .iface .. => some false
  | .iface .., .nilIface => some false
  | _, _ => none
def aggOf : AV → Option (List AV)
  | .agg xs => some xs
  | _ => none
def eqA (P : Program) : Nat → TypeId → AV → AV → Option Bool
  | 0, _, _, _ => none
  | d + 1, t, x, y =>
    match P.underlying t with
    | some .bool => eqBool x y
    | some (.int _) => eqInt x y
    | some .string => eqStr x y
    | some (.pointer _) => eqPtr x y
    | some (.slice _) => eqSl x y
    | some (.map ..) => eqMap x y
    | some (.func ..) => eqFn x y
    | some (.interface _) => eqIface x y
    | some (.struct fields) => if P.stoodInHeld t then none else (aggOf x).bind fun xs => (aggOf y).bind fun ys => eqFields P (eqA P d) fields.toList xs ys
    | some (.array len elem) => (aggOf x).bind fun xs => (aggOf y).bind fun ys => (szT P elem).bind fun n => eqElems P (eqA P d) elem n xs ys len 0
    | _ => none

def isAggV : AV → Bool
  | .agg _ => true
  | _ => false

def eqT (P : Program) (neg : Bool) (t : TypeId) (x y : AV) : Option AV :=
  match (if isAggV x && P.eqGuardType P.depth t then none else eqA P 50 t x y) with
  | some b => some (.bool (if neg then !b else b))
  | none => none

def binA (P : Program) (op : BinOp) (t : TypeId) (x y : AV) : Option AV :=
  match x, y with
  | .int k a, .int k' b =>
    match op with
    | .shl | .shr => shA op k a b
    | _ => if k = k' then intA op k a b else none
  | .str a, .str b => match op with
    | .shl | .shr => none
    | _ => strA op a b
  | _, _ => match op with
    | .eql => eqT P false t x y
    | .neq => eqT P true t x y
    | _ => none

def unA (op : UnOp) (x : AV) : Option AV :=
  match op, x with
  | .neg, .int k n => some (.int k (k.wrap (0 - n)))
  | .xor, .int k n => intA .xor k (if k.signed then -1 else k.max) n
  | .not, .bool b => some (.bool !b)
  | _, _ => none

def nnA : AV → Option AV
  | .ptr (some a) => some (.ptr (some a))
  | .iface t v => some (.iface t v)
  | .fn (.func f) x y => some (.fn (.func f) x y)
  | .yld b => some (.yld b)
  | _ => none

def offA (x : AV) (n : Nat) : Option AV :=
  match x with
  | .ptr (some a) => some (.ptr (some ⟨a.b, a.o + n⟩))
  | _ => none

def fieldOf (P : Program) (s : TypeId) (f : Nat) : Option (Nat × TypeId) :=
  match P.underlying s with
  | some (.struct fields) => (fields.toList[f]?).map fun f => (f.offset, f.type)
  | _ => none

def fieldAddrA (P : Program) (s : TypeId) (x : AV) (f : Nat) : Option AV :=
  match fieldOf P s f with
  | some (off, ft) => match szT P ft with
    | some (_ + 1) => offA x off
    | _ => none
  | none => none

def fieldA (P : Program) (s : TypeId) (x : AV) (f : Nat) : Option AV :=
  match fieldOf P s f, x with
  | some (off, ft), .agg cs => partA P ft cs off
  | _, _ => none

def ixA (sz len : Nat) (a : AA) (i : Int) : Option AV :=
  if 0 ≤ i then if i < len then some (.ptr (some ⟨a.b, a.o + i.toNat * sz⟩)) else none else none

def indexAddrA (P : Program) (t : TypeId) (x i : AV) : Option AV :=
  match P.underlying t with
  | some (.slice e) => match x, i with
    | .sl (some a) sz len _ ex, .int _ n => match szT P e with
      | some s => if s = sz ∨ ex = true then ixA s len a n else none
      | none => none
    | _, _ => none
  | some (.array len e) => match x, i with
    | .ptr (some a), .int _ n => match szT P e with
      | some s => ixA s len a n
      | none => none
    | _, _ => none
  | _ => none

def indexA (P : Program) (t : TypeId) (x i : AV) : Option AV :=
  match P.underlying t with
  | some (.array len e) => match x, i with
    | .agg cs, .int _ n => if 0 ≤ n then if n < len then (match szT P e with | some s => partA P e cs (n.toNat * s) | none => none) else none else none
    | _, _ => none
  | some .string => match x, i with
    | .str s, .int _ n => if 0 ≤ n then (match s[n.toNat]? with | some c => some (.int .u8 c.toNat) | none => none) else none
    | _, _ => none
  | _ => none

def loA : Option AV → Nat → Option Nat
  | none, _ => some 0
  | some (.int _ n), h => if 0 ≤ n then if n ≤ h then some n.toNat else none else none
  | _, _ => none
def hiA : Option AV → Nat → Nat → Option Nat
  | none, len, _ => some len
  | some (.int _ n), _, cap => if 0 ≤ n then if n ≤ cap then some n.toNat else none else none
  | _, _, _ => none

def sliceA (P : Program) (t : TypeId) (x : AV) (lo hi : Option AV) : Option AV :=
  match P.underlying t with
  | some .string => match x with
    | .str s => match hiA hi s.length s.length with
      | some h => match loA lo h with
        | some l => some (.str ((s.take h).drop l))
        | none => none
      | none => none
    | _ => none
  | some (.slice e) => match x, szT P e with
    | .sl a sz len cap ex, some s => match hiA hi len cap with
      | some h => match loA lo h with
        | some l => match a with
          | some a => if s = sz ∨ ex = true then some (.sl (some ⟨a.b, a.o + l * s⟩) s (h - l) (cap - l) ex) else none
          | none => if cap = 0 then some (.sl none s 0 0 ex) else none
        | none => none
      | none => none
    | _, _ => none
  | some (.array n e) => match x, szT P e with
    | .ptr (some a), some s => match hiA hi n n with
      | some h => match loA lo h with
        | some l => some (.sl (some ⟨a.b, a.o + l * s⟩) s (h - l) (n - l) true)
        | none => none
      | none => none
    | _, _ => none
  | _ => none

def slice3A (P : Program) (t : TypeId) (x : AV) (lo : Option AV) (hi mx : AV) : Option AV :=
  match P.underlying t with
  | some (.slice e) => match x, szT P e with
    | .sl (some a) sz _ cap ex, some s => match hiA (some mx) 0 cap with
      | some m => match hiA (some hi) 0 m with
        | some h => match loA lo h with
          | some l => if s = sz ∨ ex = true then some (.sl (some ⟨a.b, a.o + l * s⟩) s (h - l) (m - l) true) else none
          | none => none
        | none => none
      | none => none
    | _, _ => none
  | _ => none

def convA (P : Program) (src dst : TypeId) (x : AV) : Option AV :=
  match P.underlying src, P.underlying dst, x with
  | some _, some (.int k), .int _ n => some (.int k (k.wrap n))
  | some .string, some .string, .str s => some (.str s)
  | _, _, _ => none

def extractA (x : AV) (i : Nat) : Option AV :=
  match x with
  | .tup vs => vs[i]?
  | _ => none

def mkIfaceA (P : Program) (t : TypeId) (x : AV) : Option AV :=
  match P.underlying t with
  | some (.interface _) | none => none
  | _ => some (.iface t x)

def pickA (c a b : AV) : Option AV :=
  match c with
  | .bool true => some a
  | .bool false => some b
  | _ => none

def zeroA (P : Program) (t : TypeId) : Option (List AV) :=
  match (P.info? t).bind (·.zero) with
  | some v => (ofV v).bind AV.cells
  | none => none

def fillA (place : Nat → Option (Nat × Nat)) (cs : List AV) : List (Nat × AV) → Option (List AV)
  | [] => some cs
  | (i, v) :: rest =>
    match place i, v.cells with
    | some (off, size), some vs =>
      if vs.length = size then if off + size ≤ cs.length then fillA place (cs.take off ++ vs ++ cs.drop (off + size)) rest else none else none
    | _, _ => none

noncomputable def evParts (P : Program) (t : List AV) : List (Nat × Operand) → Option (List (Nat × AV))
  | [] => some []
  | (i, x) :: xs => match ev P t x, evParts P t xs with
    | some a, some as => some ((i, a) :: as)
    | _, _ => none

def placesOf (P : Program) : List Field → Option (List (Nat × Nat))
  | [] => some []
  | f :: fs => match szT P f.type, placesOf P fs with
    | some n, some ps => some ((f.offset, n) :: ps)
    | _, _ => none

def buildA (P : Program) (t : TypeId) (parts : List (Nat × AV)) : Option AV :=
  match P.underlying t, zeroA P t with
  | some (.struct fields), some zs => match placesOf P fields.toList with
    | some ps => (fillA (ps[·]?) zs parts).map AV.agg
    | none => none
  | some (.array _ e), some zs => match szT P e with
    | some s => (fillA (fun i => some (i * s, s)) zs parts).map AV.agg
    | none => none
  | _, _ => none

def lenA (x : AV) : Option AV :=
  match x with
  | .str s => some (.int .i64 s.length)
  | .sl _ _ len _ _ => some (.int .i64 len)
  | _ => none
def lenT (P : Program) (t : TypeId) (x : AV) : Option AV :=
  match P.underlying t with
  | some .string => match x with | .str s => some (.int .i64 s.length) | _ => none
  | some (.array n _) => some (.int .i64 n)
  | some (.slice _) => match x with | .sl _ _ len _ _ => some (.int .i64 len) | _ => none
  | _ => none
def capT (P : Program) (t : TypeId) (x : AV) : Option AV :=
  match P.underlying t with
  | some (.slice _) => match x with | .sl _ _ _ cap true => some (.int .i64 cap) | _ => none
  | _ => none
def minA (x y : AV) : Option AV :=
  match x, y with
  | .int k a, .int _ b => some (.int k (if b < a then b else a))
  | _, _ => none
def maxA (x y : AV) : Option AV :=
  match x, y with
  | .int k a, .int _ b => some (.int k (if a < b then b else a))
  | _, _ => none

inductive Cls where
  | p | r | a | e
  deriving DecidableEq

def cls (P : Program) : Op → Cls
  | .load .. => .r
  | .alloc _ | .box .. | .buildSlice .. | .makeSlice .. => .a
  | .makeMap .. => .a
  | .lookup .. => .r
  | .entry _ => .r
  | .convert src dst _ => match P.underlying src, P.underlying dst with
    | some (.slice _), some .string => .r
    | _, some (.slice _) => .a
    | _, _ => .p
  | .move _ | .assign _ | .pick .. | .nilCheck _ | .binOp .. | .unOp .. | .fieldAddr .. | .field .. | .indexAddr .. | .index .. | .slice .. | .extract ..
  | .makeInterface .. | .makeFunc .. | .build .. => .p
  | .call { callee := .builtin b, argTypes := ts, .. } => match b with
    | .len => match (ts[0]?).bind P.underlying with
      | some (.map ..) => .r
      | _ => .p
    | .cap | .min | .max => .p
    | _ => .e
  | _ => .e

noncomputable def pureOp (P : Program) (op : Op) (t : List AV) : Option AV :=
  match op with
  | .move x | .assign x => ev P t x
  | .pick c a b => (ev P t c).bind fun c => (ev P t a).bind fun a => (ev P t b).bind fun b => pickA c a b
  | .nilCheck x => (ev P t x).bind nnA
  | .binOp op xt x y _ => (ev P t x).bind fun a => (ev P t y).bind fun b => binA P op xt a b
  | .unOp op _ x => (ev P t x).bind (unA op)
  | .convert src dst x => (ev P t x).bind (convA P src dst)
  | .fieldAddr s x f => (ev P t x).bind fun a => fieldAddrA P s a f
  | .field s x f => (ev P t x).bind fun a => fieldA P s a f
  | .indexAddr s x i => (ev P t x).bind fun a => (ev P t i).bind fun b => indexAddrA P s a b
  | .index s x i => (ev P t x).bind fun a => (ev P t i).bind fun b => indexA P s a b
  | .slice s x lo hi none => (ev P t x).bind fun a =>
    match lo, hi with
    | none, none => sliceA P s a none none
    | some lo, none => (ev P t lo).bind fun l => sliceA P s a (some l) none
    | none, some hi => (ev P t hi).bind fun h => sliceA P s a none (some h)
    | some lo, some hi => (ev P t lo).bind fun l => (ev P t hi).bind fun h => sliceA P s a (some l) (some h)
  | .slice s x lo (some hi) (some mx) => (ev P t x).bind fun a => (ev P t hi).bind fun h => (ev P t mx).bind fun m =>
    match lo with
    | none => slice3A P s a none h m
    | some lo => (ev P t lo).bind fun l => slice3A P s a (some l) h m
  | .extract x i => (ev P t x).bind fun a => extractA a i
  | .makeInterface xt x => (ev P t x).bind (mkIfaceA P xt)
  | .makeFunc f first cap => (evs P t first.toList).bind fun a => (evs P t cap.toList).bind fun b => some (.fn f a b)
  | .build s parts => (evParts P t parts.toList).bind (buildA P s)
  | .call { callee := .builtin .len, args := ⟨[x]⟩, argTypes := ⟨[s]⟩ } => (ev P t x).bind (lenT P s)
  | .call { callee := .builtin .cap, args := ⟨[x]⟩, argTypes := ⟨[s]⟩ } => (ev P t x).bind (capT P s)
  | .call { callee := .builtin .min, args := ⟨[x, y]⟩, .. } => (ev P t x).bind fun a => (ev P t y).bind (minA a)
  | .call { callee := .builtin .max, args := ⟨[x, y]⟩, .. } => (ev P t x).bind fun a => (ev P t y).bind (maxA a)
  | _ => none

def bytesA : List AV → Option (List UInt8)
  | [] => some []
  | .int .u8 n :: cs => (bytesA cs).map (UInt8.ofNat n.toNat :: ·)
  | _ => none

noncomputable def loadA (P : Program) (t : TypeId) (x : AV) (m : Mem) : Option AV :=
  match P.underlying t with
  | none => none
  | some _ => if isAggT P t then (szT P t).bind (ldN m x) else ld1 m x

noncomputable def toStrA (P : Program) (src : TypeId) (x : AV) (m : Mem) : Option AV :=
  match P.underlying src with
  | some (.slice e) => match P.underlying e with
    | some (.int .u8) => match x with
      | .sl none _ _ _ _ => some (.str [])
      | .sl (some a) _ len _ _ => ((ldCells m a len).bind bytesA).map AV.str
      | _ => none
    | _ => none
  | _ => none

def keyEq (d : TypeDesc) : AV → AV → Option Bool
  | .int k a, .int k' b => match d with
    | .int _ => if k = k' then some (a == b) else none
    | _ => none
  | .str a, .str b => match d with
    | .string => some (a == b)
    | _ => none
  | _, _ => none

def mget (d : TypeDesc) (k : AV) : List (AV × AV) → Option (Option AV)
  | [] => some none
  | (k', v) :: es => match keyEq d k k', mget d k es with
    | some true, some none => some (some v)
    | some false, some r => some r
    | _, _ => none
def mset (d : TypeDesc) (k v : AV) (es : List (AV × AV)) : List (AV × AV) := es.map fun e => if keyEq d k e.1 = some true then (k, v) else e
noncomputable def keyLt : AV → AV → Bool
  | .int _ a, .int _ b => decide (a < b)
  | .str a, .str b => List.rec (motive := fun _ => List UInt8 → Bool) (fun b => !b.isEmpty) (fun x _ ih b => match b with | [] => false | y :: b => if x.toNat = y.toNat then ih b else decide (x.toNat < y.toNat)) a b
  | _, _ => false
noncomputable def mins (k v : AV) (es : List (AV × AV)) : List (AV × AV) := List.rec [(k, v)] (fun e es ih => if keyLt k e.1 then (k, v) :: e :: es else e :: ih) es
theorem mins_perm (k v : AV) : ∀ es : List (AV × AV), (es ++ [(k, v)]).Perm (mins k v es)
  | [] => .refl _
  | e :: es => by
    show (e :: (es ++ [(k, v)])).Perm (if keyLt k e.1 then (k, v) :: e :: es else e :: mins k v es)
    split
    · exact List.perm_append_singleton (k, v) (e :: es)
    · exact .cons _ (mins_perm k v es)
noncomputable def mput (d : TypeDesc) (k v : AV) (es : List (AV × AV)) : Option (List (AV × AV)) :=
  match mget d k es with
  | some none => some (mins k v es)
  | some (some _) => some (mset d k v es)
  | none => none
def mdel (d : TypeDesc) (k : AV) (es : List (AV × AV)) : Option (List (AV × AV)) :=
  match mget d k es with
  | some _ => some (es.filter fun e => !(keyEq d k e.1 == some true))
  | none => none

noncomputable def mapOf (m : Mem) (x : AV) : Option (List (AV × AV)) :=
  match x with
  | .map none => some []
  | .map (some b) => match m.get b with
    | some (.map es) => some es
    | _ => none
  | _ => none

def zeroV (P : Program) (t : TypeId) : Option AV := ((P.info? t).bind (·.zero)).bind ofV

noncomputable def lookupA (P : Program) (t : TypeId) (x k : AV) (ok : Bool) (m : Mem) : Option AV :=
  match P.underlying t with
  | some (.map key elem) => (P.underlying key).bind fun d => (mapOf m x).bind fun es => (keyEq d k k).bind fun _ => (mget d k es).bind fun r =>
    match r with
    | some v => some (if ok then .tup [v, .bool true] else v)
    | none => (zeroV P elem).map fun v => if ok then .tup [v, .bool false] else v
  | _ => none
noncomputable def lenM (P : Program) (t : TypeId) (x : AV) (m : Mem) : Option AV :=
  match P.underlying t with
  | some (.map ..) => (mapOf m x).map fun es => .int .i64 es.length
  | _ => none

noncomputable def entryA (x : AV) (m : Mem) : Option AV :=
  match x with
  | .ptr (some a) => match a.o, m.get a.b with
    | 0, some (.iter b _ (some e)) => match m.get b with
      | some (.rmap _ c) => if c = a.b then some (.tup [e.1, e.2]) else none
      | _ => none
    | _, _ => none
  | _ => none
noncomputable def rangeA (P : Program) (t : TypeId) (x : AV) (m : Mem) : R :=
  match P.underlying t, x with
  | some (.map ..), .map (some b) => match m.get b with
    | some (.map es) => some (.ptr (some ⟨m.next, 0⟩), (m.lay (.iter b es none)).put b (some (.rmap es m.next)))
    | _ => none
  | _, _ => none

noncomputable def readOp (P : Program) (op : Op) (t : List AV) (m : Mem) : Option AV :=
  match op with
  | .load s x => (ev P t x).bind fun a => loadA P s a m
  | .convert src _ x => (ev P t x).bind fun a => toStrA P src a m
  | .lookup s x k ok => (ev P t x).bind fun a => (ev P t k).bind fun k => lookupA P s a k ok m
  | .entry x => (ev P t x).bind fun a => entryA a m
  | .call { callee := .builtin .len, args := ⟨[x]⟩, argTypes := ⟨[s]⟩ } => (ev P t x).bind fun a => lenM P s a m
  | _ => none

noncomputable def mapPut (P : Program) (t : TypeId) (x k v : AV) (m : Mem) : Option Mem :=
  match P.underlying t, x with
  | some (.map key _), .map (some b) => (P.underlying key).bind fun d => match m.get b with
    | some (.map es) => (keyEq d k k).bind fun _ => (mput d k v es).map fun es' => m.put b (some (.map es'))
    | _ => none
  | _, _ => none
noncomputable def mapDel (P : Program) (t : TypeId) (x k : AV) (m : Mem) : Option Mem :=
  match P.underlying t, x with
  | some (.map key _), .map (some b) => (P.underlying key).bind fun d => match m.get b with
    | some (.map es) => (keyEq d k k).bind fun _ => (mdel d k es).map fun es' => m.put b (some (.map es'))
    | _ => none
  | _, _ => none
noncomputable def clearA (P : Program) (t : TypeId) (x : AV) (m : Mem) : Option Mem :=
  match P.underlying t with
  | some (.slice e) => match x with
    | .sl none _ 0 _ _ => some m
    | .sl (some a) sz len _ ex => (zeroA P e).bind fun zs => (szT P e).bind fun n =>
      if len = 0 then some m else if (n = sz ∨ ex = true) ∧ zs.length = n then stCells m a (List.replicate len zs).flatten else none
    | _ => none
  | _ => none

def maxBytes : Nat := 140737488355328

noncomputable def allocOp (P : Program) (op : Op) (t : List AV) : Option (Blk × (Nat → AV)) :=
  match op with
  | .alloc e => (zeroA P e).map fun cs => (.cells cs false, fun b => .ptr (some ⟨b, 0⟩))
  | .box _ x => ((ev P t x).bind AV.cells).map fun cs => (.cells cs false, fun b => .ptr (some ⟨b, 0⟩))
  | .makeMap s none => match P.underlying s with
    | some (.map ..) => some (.map [], fun b => .map (some b))
    | _ => none
  | .buildSlice s len parts =>
    match P.underlying s with
    | some (.slice e) => match szT P e, zeroA P e with
      | some n, some zs => if len * n ≤ 16777216 ∧ zs.length = n then (evParts P t parts.toList).bind fun ps =>
          (fillA (fun i => some (i * n, n)) (List.replicate len zs).flatten ps).map fun cs => (.cells cs false, fun b => .sl (some ⟨b, 0⟩) n len len true) else none
      | _, _ => none
    | _ => none
  | .makeSlice s l c => (ev P t l).bind fun l => (ev P t c).bind fun c =>
    match P.underlying s, l, c with
    | some (.slice e), .int .i64 l, .int .i64 c => match szT P e, zeroA P e, bytesT P e with
      | some n, some zs, some w =>
        if 0 ≤ l ∧ l ≤ c ∧ c < 9223372036854775808 ∧ c.toNat * w ≤ maxBytes ∧ zs.length = n then
          some (.cells (List.replicate c.toNat zs).flatten false, fun b => .sl (some ⟨b, 0⟩) n l.toNat c.toNat true) else none
      | _, _, _ => none
    | _, _, _ => none
  | .convert src dst x => (ev P t x).bind fun x =>
    match (P.underlying src).isSome, P.underlying dst, x with
    | true, some (.slice e), .str s => match P.underlying e, szT P e with
      | some (.int .u8), some 1 => some (.cells (s.map fun c => .int .u8 c.toNat) true, fun b => .sl (some ⟨b, 0⟩) 1 s.length s.length false)
      | _, _ => none
    | _, _, _ => none
  | _ => none

noncomputable def srcA (sz : Nat) (x : AV) (m : Mem) : Option (Nat × List AV) :=
  match x with
  | .sl none _ 0 _ _ => some (0, [])
  | .sl (some a) s len _ ex => if s = sz ∨ ex = true then (ldCells m a (len * sz)).map fun cs => (len, cs) else none
  | .str s => if sz = 1 then some (s.length, s.map fun c => .int .u8 c.toNat) else none
  | _ => none

noncomputable def appendA (sz w : Nat) (s x : AV) (m : Mem) : R :=
  match srcA sz x m with
  | none => none
  | some (n, new) =>
    if ¬ new.all AV.one then none else
    match s with
    | .sl none _ 0 0 ex =>
      if n = 0 then some (.sl none sz 0 0 ex, m)
      else if n * w ≤ maxBytes then some (.sl (some ⟨m.next, 0⟩) sz n n false, m.alloc new) else none
    | .sl (some a) s' len cap ex =>
      if s' = sz ∨ ex = true then
        if len + n ≤ cap then (stCells m ⟨a.b, a.o + len * sz⟩ new).map fun m' => (.sl (some a) sz (len + n) cap ex, m')
        else if (len + n) * w ≤ maxBytes then
          match ldCells m a (len * sz) with
          | some old =>
            if ex then some (.sl (some ⟨m.next, 0⟩) sz (len + n) (len + n) false, m.alloc (old ++ new))
            else match m.get a.b with
              | some (.cells _ false) => some (.sl (some ⟨m.next, 0⟩) sz (len + n) (len + n) false, (m.put a.b none).alloc (old ++ new))
              | _ => none
          | none => none
        else none
      else none
    | _ => none

noncomputable def appendZ (P : Program) (st : TypeId) (s x : AV) (m : Mem) : R :=
  match P.underlying st with
  | some (.slice e) => (zeroA P e).bind fun zs => (szT P e).bind fun n => (bytesT P e).bind fun w =>
    match s, x with
    | .sl (some a) _ len cap true, .int _ k =>
      if 0 < k ∧ zs.length = n ∧ 0 < n ∧ 0 < w ∧ 0 < cap ∧ len ≤ cap ∧ cap < len + k.toNat ∧ (len + k.toNat) * w ≤ maxBytes then
        (ldCells m a (len * n)).map fun old => (.sl (some ⟨m.next, 0⟩) n (len + k.toNat) (len + k.toNat) false, m.alloc (old ++ (List.replicate k.toNat zs).flatten)) else none
    | _, _ => none
  | _ => none

noncomputable def copyA (sz : Nat) (d x : AV) (m : Mem) : R :=
  match d, srcA sz x m with
  | .sl a s len _ ex, some (n, cs) =>
    if min n len = 0 then some (.int .i64 0, m) else
    match a with
    | some a => if s = sz ∨ ex = true then (if (cs.take (min n len * sz)).all AV.one then (stCells m a (cs.take (min n len * sz))).map fun m' => (.int .i64 (min n len : Nat), m') else none) else none
    | none => none
  | _, _ => none

end Go.Abs
end
section
namespace Go.Abs
open Go

inductive Tg where
  | fn (f : FuncId)
  | yl (b : Nat)

abbrev CallF := Tg → List AV → Mem → R

noncomputable def callA (call : CallF) (fv : AV) (args : List AV) (m : Mem) : R :=
  match fv with
  | .fn (.func f) first cap => call (.fn f) (first ++ args ++ cap) m
  | .yld b => call (.yl b) args m
  | _ => none

def appElem (P : Program) (st xt : TypeId) : Option (Nat × Nat) :=
  match P.underlying st with
  | some (.slice e) => match (match P.underlying xt with | some (.slice _) | some .string => true | _ => false), P.info? e with
    | true, some i => match i.zero with
      | some z => if z.cells.size = i.size ∧ 0 < i.bytes then some (i.size, i.bytes) else none
      | none => none
    | _, _ => none
  | _ => none
noncomputable def appendOp (P : Program) (st xt : TypeId) (s x : AV) (m : Mem) : R :=
  match P.underlying xt with
  | some (.int _) => appendZ P st s x m
  | _ => (appElem P st xt).bind fun nw => appendA nw.1 nw.2 s x m
def copyElem (P : Program) (st : TypeId) : Option Nat :=
  match P.underlying st with
  | some (.slice e) => szT P e
  | _ => none

noncomputable def effK (call : CallF) (P : Program) (op : Op) (t : List AV) (m : Mem) (K : AV → Mem → R) : R :=
  match op with
  | .store s a v => (ev P t a).bind fun a => (ev P t v).bind fun v => (szT P s).bind fun n => (stV m a v n).bind fun m' => K .undef m'
  | .call { callee := .builtin .append, args := ⟨[s, x]⟩, argTypes := ⟨[st, xt]⟩ } =>
    (ev P t s).bind fun s => (ev P t x).bind fun x => (appendOp P st xt s x m).bind fun r => K r.1 r.2
  | .call { callee := .builtin .copy, args := ⟨[d, x]⟩, argTypes := ⟨st :: _⟩ } =>
    (copyElem P st).bind fun n => (ev P t d).bind fun d => (ev P t x).bind fun x => (copyA n d x m).bind fun r => K r.1 r.2
  | .mapUpdate s x k v | .insert s x k v =>
    (ev P t x).bind fun x => (ev P t k).bind fun k => (ev P t v).bind fun v => (mapPut P s x k v m).bind fun m' => K .undef m'
  | .call { callee := .builtin .delete, args := ⟨[x, k]⟩, argTypes := ⟨s :: _⟩ } =>
    (ev P t x).bind fun x => (ev P t k).bind fun k => (mapDel P s x k m).bind fun m' => K .undef m'
  | .call { callee := .builtin .clear, args := ⟨[x]⟩, argTypes := ⟨s :: _⟩ } =>
    (ev P t x).bind fun x => (clearA P s x m).bind fun m' => K .undef m'
  | .call { callee := .value f, args := ⟨xs⟩, .. } =>
    (ev P t f).bind fun fv => (evs P t xs).bind fun as => (callA call fv as m).bind fun r => K r.1 r.2
  | .range s x => (ev P t x).bind fun x => (rangeA P s x m).bind fun r => K r.1 r.2
  | _ => none

noncomputable def aput (t : List AV) (d : Option Tmp) (v : AV) : List AV :=
  match d with
  | some d => setF t d v
  | none => t

noncomputable def guardA0 (ops : List Oper) (o : Oper) (t : List AV) (yes no : R) : R :=
  match o.guard with
  | none => yes
  | some (j, want) => match (ops[j]?).bind (·.dst) with
    | some d => match t.getD d .undef with
      | .bool b => if b = want then yes else no
      | .tup [] => no
      | _ => none
    | none => none

noncomputable def guardA (sk : List Tmp) (ops : List Oper) (o : Oper) (t : List AV) (yes no : List AV → R) : R :=
  match o.guard with
  | none => yes t
  | some (j, want) => match (ops[j]?).bind (·.dst) with
    | some d =>
      if sk.contains d && AV.beq (nth t d) (.tup []) then no t else
      match nth t d with
      | .bool true => if want then yes (setF t d (.bool true)) else no (setF t d (.bool true))
      | .bool false => if want then no (setF t d (.bool false)) else yes (setF t d (.bool false))
      | _ => none
    | none => none

theorem set_same {t : List AV} {d : Nat} {v : AV} (h : t.getD d .undef = v) : t.set d v = t := by
  subst h
  apply List.ext_getElem?
  intro i
  rw [List.getElem?_set]
  split
  · rename_i e
    subst e
    split
    · rename_i h; simp [List.getD_eq_getElem?_getD, List.getElem?_eq_getElem h]
    · rename_i h; rw [List.getElem?_eq_none (by omega)]
  · rfl

theorem guardA_same {sk : List Tmp} {ops : List Oper} {o : Oper} {t : List AV} {yes no : List AV → R} {r : AV × Mem} (h : guardA sk ops o t yes no = some r) : guardA0 ops o t (yes t) (no t) = some r := by
  unfold guardA at h
  unfold guardA0
  cases hg : o.guard with
  | none => simp only [hg] at h ⊢; exact h
  | some jw =>
    obtain ⟨j, want⟩ := jw
    simp only [hg, nth_eq, setF_eq] at h ⊢
    cases e : (ops[j]?).bind (·.dst) with
    | none => simp only [e] at h; cases h
    | some d =>
      simp only [e] at h ⊢
      split at h
      · rename_i hs
        simp only [Bool.and_eq_true] at hs
        rw [AV.eq_of_beq hs.2]; exact h
      · cases hv : t.getD d .undef with
        | bool b =>
          simp only [hv] at h ⊢
          cases b <;> cases want <;> simp only [set_same hv] at h <;> simpa using h
        | _ => simp only [hv] at h; cases h

def skDel (sk : List Tmp) (d : Option Tmp) : List Tmp :=
  match d with
  | some d => sk.filter (· != d)
  | none => sk

noncomputable def opK (call : CallF) (P : Program) (op : Op) (t : List AV) (m : Mem) (K : AV → Mem → R) : R :=
  match cls P op with
  | .p => (pureOp P op t).bind fun v => K v m
  | .r => (readOp P op t m).bind fun v => K v m
  | .a => (allocOp P op t).bind fun ca => K (ca.2 m.next) (m.lay ca.1)
  | .e => effK call P op t m K

def Drop (N : Nat) (m m' : Mem) : Prop := m'.next = m.next ∧ (∀ b, b < N → m'.get b = m.get b) ∧ ∀ b, m'.get b = m.get b ∨ m'.get b = none
theorem Drop.refl (N : Nat) (m : Mem) : Drop N m m := ⟨rfl, fun _ _ => rfl, fun _ => .inl rfl⟩
def pairsBeq : List (AV × AV) → List (AV × AV) → Bool
  | [], [] => true
  | a :: as, b :: bs => AV.beq a.1 b.1 && AV.beq a.2 b.2 && pairsBeq as bs
  | _, _ => false
theorem pairsBeq_eq : ∀ {a b : List (AV × AV)}, pairsBeq a b = true → a = b
  | [], [], _ => rfl
  | a :: as, b :: bs, h => by
    simp only [pairsBeq, Bool.and_eq_true] at h
    rw [pairsBeq_eq h.2, show a = b from Prod.ext (AV.eq_of_beq h.1.1) (AV.eq_of_beq h.1.2)]
  | [], _ :: _, h => by simp [pairsBeq] at h
  | _ :: _, [], h => by simp [pairsBeq] at h
def Blk.same : Blk → Blk → Bool
  | .cells a r, .cells b s => AV.beqs a b && r == s
  | .map a, .map b => pairsBeq a b
  | _, _ => false
theorem Blk.same_eq : ∀ {a b : Blk}, Blk.same a b = true → a = b
  | .cells a r, .cells b s, h => by
    simp only [Blk.same, Bool.and_eq_true, beq_iff_eq] at h
    rw [AV.eqs_of_beqs h.1, h.2]
  | .map a, .map b, h => by rw [pairsBeq_eq h]
  | .cells .., .map _, h | .cells .., .loop _, h | .cells .., .rmap .., h | .cells .., .iter .., h
  | .map _, .cells .., h | .map _, .loop _, h | .map _, .rmap .., h | .map _, .iter .., h
  | .loop _, _, h | .rmap .., _, h | .iter .., _, h => by simp [Blk.same] at h
def oMeet (N off : Nat) (v u : Option Blk) : Option (Option Blk) :=
  match v, u with
  | none, none => some none
  | some a, some b => if Blk.same a b then some (some a) else if Nat.ble N off then some none else none
  | _, _ => if Nat.ble N off then some none else none
theorem oMeet_some {N off : Nat} {v u x : Option Blk} (h : oMeet N off v u = some x) : ((x = v ∧ x = u) ∨ x = none) ∧ (off < N → x = v ∧ x = u) := by
  have hb : Nat.ble N off = true → ¬ off < N := fun h => by have := Nat.le_of_ble_eq_true h; omega
  unfold oMeet at h
  split at h
  · cases h; exact ⟨.inr rfl, fun _ => ⟨rfl, rfl⟩⟩
  · split at h
    · rename_i e
      cases h
      have := Blk.same_eq e
      subst this
      exact ⟨.inl ⟨rfl, rfl⟩, fun _ => ⟨rfl, rfl⟩⟩
    · split at h
      · rename_i e; cases h; exact ⟨.inr rfl, fun h => absurd h (hb e)⟩
      · cases h
  · split at h
    · rename_i e; cases h; exact ⟨.inr rfl, fun h => absurd h (hb e)⟩
    · cases h
noncomputable def PT.meet (N : Nat) (t : PT) : Nat → Nat → PT → Option PT :=
  PT.rec (motive := fun _ => Nat → Nat → PT → Option PT)
    (fun s off u => PT.rec (motive := fun _ => Nat → Nat → Option PT) (fun _ _ => some .leaf)
      (fun v _ _ ihl ihr s off => (oMeet N off none v).bind fun _ => (ihl (Nat.mul 2 s) (Nat.add off s)).bind fun _ => (ihr (Nat.mul 2 s) (Nat.add off (Nat.mul 2 s))).bind fun _ => some .leaf) u s off)
    (fun v _ _ ihl ihr s off u => (oMeet N off v u.val).bind fun v => (ihl (Nat.mul 2 s) (Nat.add off s) u.lft).bind fun l => (ihr (Nat.mul 2 s) (Nat.add off (Nat.mul 2 s)) u.rgt).bind fun r => some (.node v l r)) t
theorem place_odd {off s k : Nat} (h : k % 2 = 1) : off + s + 2 * s * (k / 2) = off + s * k := by
  have : k = 2 * (k / 2) + 1 := by omega
  conv => rhs; rw [this]
  rw [Nat.mul_add, Nat.mul_one, ← Nat.mul_assoc, Nat.mul_comm s 2]; omega
theorem place_even {off s k : Nat} (h0 : k ≠ 0) (h : ¬ k % 2 = 1) : off + 2 * s + 2 * s * (k / 2 - 1) = off + s * k := by
  have : k = 2 * ((k / 2 - 1) + 1) := by omega
  conv => rhs; rw [this]
  rw [← Nat.mul_assoc, Nat.mul_comm s 2, Nat.mul_add]; omega
theorem PT.meet_leaf {N : Nat} : ∀ (u : PT) {s off : Nat} {x : PT}, PT.meet N .leaf s off u = some x → x = .leaf ∧ ∀ k, off + s * k < N → u.get k = none
  | .leaf, s, off, x, h => by
    have : PT.meet N .leaf s off .leaf = some .leaf := rfl
    rw [this] at h; cases h
    exact ⟨rfl, fun _ _ => rfl⟩
  | .node v l r, s, off, x, h => by
    have hu : PT.meet N .leaf s off (.node v l r) = (oMeet N off none v).bind fun _ => (PT.meet N .leaf (2 * s) (off + s) l).bind fun _ => (PT.meet N .leaf (2 * s) (off + 2 * s) r).bind fun _ => some .leaf := rfl
    rw [hu] at h
    obtain ⟨y, h1, h⟩ := Option.bind_eq_some_iff.1 h
    obtain ⟨l', h2, h⟩ := Option.bind_eq_some_iff.1 h
    obtain ⟨r', h3, h⟩ := Option.bind_eq_some_iff.1 h
    cases h
    refine ⟨rfl, fun k hk => ?_⟩
    rw [PT.get_node']
    split
    · rename_i e
      subst e
      obtain ⟨h4, h5⟩ := (oMeet_some h1).2 (by simpa using hk)
      rw [← h5, h4]
    · rename_i h0
      split
      · rename_i e; exact (PT.meet_leaf l h2).2 _ (by rw [place_odd e]; exact hk)
      · rename_i e; exact (PT.meet_leaf r h3).2 _ (by rw [place_even h0 e]; exact hk)
theorem PT.meet_some {N : Nat} : ∀ (t : PT) {s off : Nat} {u x : PT}, PT.meet N t s off u = some x → ∀ k, ((x.get k = t.get k ∧ x.get k = u.get k) ∨ x.get k = none) ∧ (off + s * k < N → x.get k = t.get k ∧ x.get k = u.get k)
  | .leaf, s, off, u, x, h, k => by
    obtain ⟨rfl, h1⟩ := PT.meet_leaf u h
    exact ⟨.inr rfl, fun hk => ⟨rfl, (h1 k hk).symm⟩⟩
  | .node v l r, s, off, u, x, h, k => by
    have hu : PT.meet N (.node v l r) s off u = (oMeet N off v u.val).bind fun v => (PT.meet N l (2 * s) (off + s) u.lft).bind fun l => (PT.meet N r (2 * s) (off + 2 * s) u.rgt).bind fun r => some (.node v l r) := rfl
    rw [hu] at h
    obtain ⟨y, h1, h⟩ := Option.bind_eq_some_iff.1 h
    obtain ⟨l', h2, h⟩ := Option.bind_eq_some_iff.1 h
    obtain ⟨r', h3, h⟩ := Option.bind_eq_some_iff.1 h
    cases h
    rw [PT.get_node', PT.get_node', PT.get_node u]
    by_cases h0 : k = 0
    · subst h0
      simp only [if_true]
      simpa using oMeet_some h1
    · simp only [if_neg h0]
      by_cases e : k % 2 = 1
      · simp only [if_pos e]
        have := PT.meet_some l h2 (k / 2)
        rw [place_odd e] at this
        exact this
      · simp only [if_neg e]
        have := PT.meet_some r h3 (k / 2 - 1)
        rw [place_even h0 e] at this
        exact this
noncomputable def meet2 (N : Nat) (r s : R) : R :=
  match r, s with
  | some a, some b => if AV.beq a.1 b.1 && Nat.beq a.2.next b.2.next then (PT.meet N a.2.tab 1 0 b.2.tab).map fun t => (a.1, ⟨a.2.next, t⟩) else none
  | _, _ => none
theorem meet2_some {N : Nat} {r s : R} {x : AV × Mem} (h : meet2 N r s = some x) : ∃ a b, r = some (x.1, a) ∧ s = some (x.1, b) ∧ Drop N a x.2 ∧ Drop N b x.2 := by
  unfold meet2 at h
  split at h
  · rename_i a b
    split at h
    · rename_i e
      simp only [Bool.and_eq_true] at e
      have e1 := AV.eq_of_beq e.1
      have e2 := Nat.eq_of_beq_eq_true e.2
      obtain ⟨t, h1, rfl⟩ := Option.map_eq_some_iff.1 h
      have h2 := PT.meet_some _ h1
      have hk : ∀ k, 0 + 1 * k = k := fun k => by omega
      refine ⟨a.2, b.2, rfl, ?_, ⟨rfl, fun k hb => ?_, fun k => ?_⟩, ⟨e2, fun k hb => ?_, fun k => ?_⟩⟩
      · rw [e1]
      · rw [Mem.get_def, Mem.get_def]
        split
        · exact ((h2 k).2 (by rw [hk]; exact hb)).1
        · rfl
      · rw [Mem.get_def, Mem.get_def]
        split
        · rcases (h2 k).1 with e | e
          · exact .inl e.1
          · exact .inr e
        · exact .inr rfl
      · rw [Mem.get_def, Mem.get_def]
        simp only [e2]
        split
        · exact ((h2 k).2 (by rw [hk]; exact hb)).2
        · rfl
      · rw [Mem.get_def, Mem.get_def]
        simp only [e2]
        split
        · rcases (h2 k).1 with e | e
          · exact .inl e.2
          · exact .inr e
        · exact .inr rfl
    · cases h
  · cases h
theorem Drop.trans {N : Nat} {a b c : Mem} (h : Drop N a b) (g : Drop N b c) : Drop N a c :=
  ⟨g.1.trans h.1, fun k hk => (g.2.1 k hk).trans (h.2.1 k hk), fun k => by
    rcases g.2.2 k with e | e
    · rw [e]; exact h.2.2 k
    · exact .inr e⟩
noncomputable def meetL (N : Nat) (l : List R) : R := List.rec none (fun r rs ih => match rs with | [] => r | _ :: _ => meet2 N r ih) l
theorem meetL_some {N : Nat} : ∀ {l : List R} {x : AV × Mem}, meetL N l = some x → ∀ r ∈ l, ∃ a, r = some (x.1, a) ∧ Drop N a x.2
  | [], _, _, r, hr => by cases hr
  | [r0], x, h, r, hr => by
    obtain rfl : r = r0 := by simpa using hr
    have : meetL N [r] = r := rfl
    rw [this] at h
    exact ⟨x.2, h, .refl _ _⟩
  | r0 :: r1 :: rs, x, h, r, hr => by
    have : meetL N (r0 :: r1 :: rs) = meet2 N r0 (meetL N (r1 :: rs)) := rfl
    rw [this] at h
    obtain ⟨a, b, h1, h2, h3, h4⟩ := meet2_some h
    rcases List.mem_cons.1 hr with rfl | hr
    · exact ⟨a, h1, h3⟩
    · obtain ⟨c, g1, g2⟩ := meetL_some h2 r hr
      exact ⟨c, g1, g2.trans h4⟩
noncomputable def meetR (N n : Nat) (f : Nat → R) : R := meetL N ((List.range n).map f)
theorem meetR_congr {N n : Nat} {f g : Nat → R} (h : ∀ i, i < n → f i = g i) : meetR N n f = meetR N n g := by
  unfold meetR
  congr 1
  exact List.map_congr_left fun i hi => h i (List.mem_range.1 hi)
theorem meetR_some {N n : Nat} {f : Nat → R} {r : AV × Mem} (h : meetR N n f = some r) : ∀ i, i < n → ∃ mi, f i = some (r.1, mi) ∧ Drop N mi r.2 :=
  fun i hi => meetL_some h (f i) (List.mem_map.2 ⟨i, List.mem_range.2 hi, rfl⟩)
noncomputable def nextR (x : AV) (m : Mem) (K : AV → Mem → R) : R :=
  match x with
  | .ptr (some a) => match a.o, m.get a.b with
    | 0, some (.iter b left _) => match m.get b with
      | some (.rmap es c) => if c = a.b then
          match left with
          | [] => K (.tup [.bool false]) ((m.put a.b none).put b (some (.map es)))
          | e :: l => meetR m.next (l.length + 1) fun i => K (.tup [.bool true, ((e :: l).getD i e).1, ((e :: l).getD i e).2]) (m.put a.b (some (.iter b ((e :: l).eraseIdx i) (some ((e :: l).getD i e)))))
        else none
      | _ => none
    | _, _ => none
  | _ => none
def nextOf : List Oper → Option (Operand × Option Tmp × List Oper)
  | o :: os => match o.op, o.guard with
    | .next it false, none => some (it, o.dst, os)
    | _, _ => none
  | [] => none

noncomputable def opsK (call : CallF) (P : Program) (all : List Oper) : List Oper → List Tmp → List AV → Mem → (List AV → Mem → R) → R
  | [], _, t, m, K => K t m
  | o :: os, sk, t, m, K =>
    guardA sk all o t
      (fun t => opK call P o.op t m fun v m' => opsK call P all os (skDel sk o.dst) (aput t o.dst v) m' K)
      (fun t => opsK call P all os (o.dst.toList ++ sk) (aput t o.dst (.tup [])) m K)

structure Seen where
  rs : List (Nat × (Mem → Option AV) × AV)
  es : List (Nat × Mem)

noncomputable def chkR (f : Mem → Option AV) (v : AV) (c : List Nat) : List (Nat × Mem) → R → R
  | [], K => K
  | (j, m) :: es, K => if j ∈ c then (if f m = some v then chkR f v c es K else none) else chkR f v c es K
noncomputable def chkE (m : Mem) (c : List Nat) : List (Nat × (Mem → Option AV) × AV) → R → R
  | [], K => K
  | (j, f, v) :: rs, K => if j ∈ c then (if f m = some v then chkE m c rs K else none) else chkE m c rs K

noncomputable def dopsK (call : CallF) (P : Program) (all : List Oper) : List (List Nat) → List Oper → List Tmp → Nat → Seen → List AV → Mem → (List AV → Mem → R) → R
  | c :: cs, o :: os, sk, i, h, t, m, K =>
    guardA sk all o t
      (fun t => match cls P o.op with
        | .p => (pureOp P o.op t).bind fun v => dopsK call P all cs os (skDel sk o.dst) (i + 1) h (aput t o.dst v) m K
        | .r => (readOp P o.op t m).bind fun v =>
            chkR (readOp P o.op t) v c h.es (dopsK call P all cs os (skDel sk o.dst) (i + 1) ⟨(i, readOp P o.op t, v) :: h.rs, h.es⟩ (aput t o.dst v) m K)
        | .a => (allocOp P o.op t).bind fun ca => dopsK call P all cs os (skDel sk o.dst) (i + 1) h (aput t o.dst (ca.2 m.next)) (m.lay ca.1) K
        | .e => effK call P o.op t m fun v m' =>
            chkE m' c h.rs (dopsK call P all cs os (skDel sk o.dst) (i + 1) ⟨h.rs, (i, m) :: h.es⟩ (aput t o.dst v) m' K))
      (fun t => dopsK call P all cs os (o.dst.toList ++ sk) (i + 1) h (aput t o.dst (.tup [])) m K)
  | _, [], _, _, _, t, m, K => K t m
  | [], _ :: _, _, _, _, _, _, _ => none

inductive AI where
  | code (c : AC)
  | inBlock (id : Nat)
  | inLoop (c : AC)
  | inScope (c : AC)
  | beginRound

def aexit (id : Nat) : List AI → Option (List AI)
  | .inBlock id' :: k => if id' = id then some k else aexit id k
  | _ :: k => aexit id k
  | [] => none

def mask : List Bool → List AV → List AV
  | _, [] => []
  | true :: bs, v :: vs => v :: mask bs vs
  | false :: bs, _ :: vs => .undef :: mask bs vs
  | [], _ :: vs => .undef :: mask [] vs

noncomputable def condA (v : AV) (x y : R) : R :=
  match v with
  | .bool true => x
  | .bool false => y
  | _ => none

noncomputable def resA (P : Program) : List ResultVar → List AV → Mem → Option (List AV)
  | [], _, _ => some []
  | .tmp i :: rs, t, m => match resA P rs t m with
    | some vs => some (nth t i :: vs)
    | none => none
  | .cell a ty :: rs, t, m => match loadA P ty (nth t a) m, resA P rs t m with
    | some v, some vs => some (v :: vs)
    | _, _ => none
def tupA : List AV → AV
  | [v] => v
  | [] => .undef
  | vs => .tup vs

structure Env where
  P : Program
  B : FuncId → Option (List ResultVar × Nat × AC)
  H : FuncId → Option (List AV → Mem → R)

inductive Md where
  | fn (rs : List ResultVar)
  | rd (b : Nat)
  | df

noncomputable def fin (P : Program) (md : Md) (j : Option Jmp) (t : List AV) (m : Mem) : R :=
  match md with
  | .fn rs => match j with
    | some (.exit _) => none
    | _ => (resA P rs t m).bind fun vs => some (tupA vs, m)
  | .rd b => match m.get b with
    | some (.loop l) => some (.bool j.isNone, m.put b (some (.loop { l with state := if j.isNone then .ready else .done, pending := j })))
    | _ => none
  | .df => match j with
    | some (.exit _) => none
    | _ => some (.tup t, m)
noncomputable def beginA (md : Md) (m : Mem) : Option Mem :=
  match md with
  | .fn _ => none
  | .rd b => match m.get b with
    | some (.loop l) => if l.state = .ready then some (m.put b (some (.loop { l with state := .busy }))) else none
    | _ => none
  | .df => none
noncomputable def around (md : Md) (m : Mem) : Bool :=
  match md with
  | .fn _ => true
  | .rd b => match m.get b with
    | some (.loop _) => true
    | _ => false
  | .df => false
noncomputable def rangeEnd (n : Nat) (m : Mem) (go : Option Jmp → Mem → R) : R :=
  match m.get n with
  | some (.loop l) => if l.state = .busy then none else go l.pending (m.put n none)
  | _ => none
def pend (j : Option Jmp) (k : List AI) : List AI :=
  match j with
  | none => k
  | some j => .code j.code :: k
noncomputable def rangeK (call : CallF) (md : Md) (fv : AV) (l : LoopA) (m : Mem) (go : Option Jmp → Mem → R) : R :=
  match fv with
  | .fn (.func f) first cap => if around md m then (call (.fn f) (first ++ [.yld m.next] ++ cap) (m.lay (.loop l))).bind fun r => rangeEnd m.next r.2 go else none
  | _ => none

noncomputable def stepK (E : Env) (call : CallF) (md : Md) (k : List AI) (t : List AV) (m : Mem) (κ : List AI → List AV → Mem → R) : R :=
  match k with
  | [] => fin E.P md none t m
  | .inBlock _ :: k => κ k t m
  | .inScope _ :: k => κ k t m
  | .beginRound :: k => (beginA md m).bind fun m => κ k t m
  | .inLoop c :: k => κ (.code c :: .inLoop c :: k) t m
  | .code c :: k =>
    match c with
    | .skip => κ k t m
    | .region _ ops draw chk _ => if draw then dopsK call E.P ops chk ops [] 0 ⟨[], []⟩ t m (fun t m => κ k t m) else
      match nextOf ops with
      | some (it, d, os) => (ev E.P t it).bind fun x => nextR x m fun v m => opsK call E.P ops os [] (aput t d v) m (fun t m => κ k t m)
      | none => opsK call E.P ops ops [] t m (fun t m => κ k t m)
    | .seq a b => κ (.code a :: .code b :: k) t m
    | .cond c x y => (ev E.P t c).bind fun v => condA v (κ (.code x :: k) t m) (κ (.code y :: k) t m)
    | .block id b => κ (.code b :: .inBlock id :: k) t m
    | .loop b => κ (.code b :: .inLoop b :: k) t m
    | .scope b => κ (.code b :: .inScope b :: k) t m
    | .rangeFunc f ps a b => (ev E.P t f).bind fun fv => rangeK call md fv ⟨.ready, none, t, ps, a, b⟩ m fun j m => κ (pend j k) t m
    | .exit id => match aexit id k with
      | some k' => κ k' t m
      | none => fin E.P md (some (.exit id)) t m
    | .ret => fin E.P md (some .ret) t m
    | .pt live c => κ (.code c :: k) (mask live t) m
    | .other c => match c with
      | .label _ => κ k t m
      | _ => none

noncomputable def goF (E : Env) (call : CallF) (md : Md) : Nat → List AI → List AV → Mem → R
  | 0, _, _, _ => none
  | n + 1, k, t, m => stepK E call md k t m (goF E call md n)

noncomputable def bindP (ps : List Tmp) (args : List AV) (t : List AV) : List AV := (ps.zip args).foldl (fun t pa => t.set pa.1 pa.2) t

noncomputable def roundK (m : Mem) (b : Nat) (args : List AV) (go : List AI → List AV → R) : R :=
  match m.get b with
  | some (.loop l) => if args.length = l.params.length then go [.code l.assign, .beginRound, .code l.body] (bindP l.params args l.tmps) else none
  | _ => none

noncomputable def runF (E : Env) : Nat → CallF
  | 0, _, _, _ => none
  | n + 1, tg, args, m =>
    match tg with
    | .fn f => match E.H f with
      | some h => h args m
      | none => match E.B f with
        | some (rs, nt, c) => goF E (runF E n) (.fn rs) n [.code c] (args ++ List.replicate (nt - args.length) .undef) m
        | none => none
    | .yl b => roundK m b args fun k t => goF E (runF E n) (.rd b) n k t m

noncomputable def goC (E : Env) (call : CallF) (md : Md) (κ : List AI → List AV → Mem → R) : Nat → List AI → List AV → Mem → R
  | 0, k, t, m => κ k t m
  | n + 1, k, t, m =>
    match k with
    | .code (.pt live c) :: k => κ (.code c :: k) (mask live t) m
    | .code (.rangeFunc f ps a b) :: k => (ev E.P t f).bind fun fv => rangeK call md fv ⟨.ready, none, t, ps, a, b⟩ m fun j m => κ (pend j k) t m
    | k => stepK E call md k t m (goC E call md κ n)


def Le {α : Type} (f g : Option α) : Prop := ∀ r, f = some r → g = some r
theorem Le.refl {α : Type} (f : Option α) : Le f f := fun _ h => h
theorem Le.trans {α : Type} {f g h : Option α} (a : Le f g) (b : Le g h) : Le f h := fun r e => b r (a r e)
theorem Le.bind {α β : Type} {f g : Option α} {F G : α → Option β} (h : Le f g) (hF : ∀ x, Le (F x) (G x)) : Le (f.bind F) (g.bind G) := by
  intro r e
  cases hf : f with
  | none => simp [hf] at e
  | some x => rw [h x hf]; rw [hf] at e; exact hF x r e
theorem Le.none {α : Type} (g : Option α) : Le none g := fun _ h => by simp at h

def Lim {α : Type} (f : Nat → Option α) (g : Option α) : Prop := (∀ n, Le (f n) g) ∧ ∀ r, g = some r → ∃ N, ∀ n, N ≤ n → f n = some r
theorem Lim.const {α : Type} (g : Option α) : Lim (fun _ => g) g := ⟨fun _ => .refl g, fun _ h => ⟨0, fun _ _ => h⟩⟩
theorem Lim.bind {α β : Type} {f : Nat → Option α} {g : Option α} {F : Nat → α → Option β} {G : α → Option β} (h : Lim f g) (hF : ∀ x, Lim (fun n => F n x) (G x)) :
    Lim (fun n => (f n).bind (F n)) (g.bind G) := by
  refine ⟨fun n => (h.1 n).bind fun x => (hF x).1 n, ?_⟩
  intro r e
  cases hg : g with
  | none => simp [hg] at e
  | some x =>
    rw [hg] at e
    obtain ⟨N, hN⟩ := h.2 x hg
    obtain ⟨M, hM⟩ := (hF x).2 r e
    refine ⟨max N M, fun n hn => ?_⟩
    show (f n).bind (F n) = some r
    rw [hN n (by omega)]
    exact hM n (by omega)

section
variable {E : Env} {P : Program}

theorem Lim.callA {call : Nat → CallF} {c : CallF} (h : ∀ f a m, Lim (fun n => call n f a m) (c f a m)) (fv : AV) (args : List AV) (m : Mem) :
    Lim (fun n => Abs.callA (call n) fv args m) (Abs.callA c fv args m) := by
  unfold Abs.callA
  split
  · exact h _ _ _
  · exact h _ _ _
  · exact .const _

theorem Lim.effK {call : Nat → CallF} {c : CallF} (h : ∀ f a m, Lim (fun n => call n f a m) (c f a m)) (op : Op) (t : List AV) (m : Mem)
    {K : Nat → AV → Mem → R} {K' : AV → Mem → R} (hK : ∀ v m, Lim (fun n => K n v m) (K' v m)) :
    Lim (fun n => Abs.effK (call n) P op t m (K n)) (Abs.effK c P op t m K') := by
  unfold Abs.effK
  split
  · exact .bind (.const _) fun _ => .bind (.const _) fun _ => .bind (.const _) fun _ => .bind (.const _) fun _ => hK _ _
  · exact .bind (.const _) fun _ => .bind (.const _) fun _ => .bind (.const _) fun _ => hK _ _
  · exact .bind (.const _) fun _ => .bind (.const _) fun _ => .bind (.const _) fun _ => .bind (.const _) fun _ => hK _ _
  · exact .bind (.const _) fun _ => .bind (.const _) fun _ => .bind (.const _) fun _ => .bind (.const _) fun _ => hK _ _
  · exact .bind (.const _) fun _ => .bind (.const _) fun _ => .bind (.const _) fun _ => .bind (.const _) fun _ => hK _ _
  · exact .bind (.const _) fun _ => .bind (.const _) fun _ => .bind (.const _) fun _ => hK _ _
  · exact .bind (.const _) fun _ => .bind (.const _) fun _ => hK _ _
  · exact .bind (.const _) fun _ => .bind (.const _) fun _ => .bind (.callA h _ _ _) fun _ => hK _ _
  · exact .bind (.const _) fun _ => .bind (.const _) fun _ => hK _ _
  · exact .const _

theorem Lim.all {N : Nat} {f : Nat → Nat → R} {g : Nat → R} (h : ∀ i, Lim (fun n => f n i) (g i)) (hg : ∀ i, i < N → ∃ r, g i = some r) : ∃ B, ∀ n, B ≤ n → ∀ i, i < N → f n i = g i := by
  have : ∀ j, j ≤ N → ∃ B, ∀ n, B ≤ n → ∀ i, i < j → f n i = g i := by
    intro j
    induction j with
    | zero => intro _; exact ⟨0, fun _ _ i hi => by omega⟩
    | succ j ih =>
      intro hj
      obtain ⟨B, hB⟩ := ih (by omega)
      obtain ⟨r, hr⟩ := hg j (by omega)
      obtain ⟨C, hC⟩ := (h j).2 r hr
      refine ⟨max B C, fun n hn i hi => ?_⟩
      by_cases e : i = j
      · subst e; rw [hr]; exact hC n (by omega)
      · exact hB n (by omega) i (by omega)
  exact this N (Nat.le_refl _)
theorem Lim.meetR {M N : Nat} {f : Nat → Nat → R} {g : Nat → R} (h : ∀ i, Lim (fun n => f n i) (g i)) : Lim (fun n => Abs.meetR M N (f n)) (Abs.meetR M N g) := by
  refine ⟨fun n r hr => ?_, fun r hr => ?_⟩
  · rw [← hr]
    refine meetR_congr fun i hi => ?_
    obtain ⟨mi, h1, _⟩ := meetR_some hr i hi
    rw [h1]
    exact (h i).1 n _ h1
  · obtain ⟨B, hB⟩ := Lim.all (N := N) h fun i hi => by
      obtain ⟨mi, h1, _⟩ := meetR_some hr i hi
      exact ⟨_, h1⟩
    exact ⟨B, fun n hn => by rw [← hr]; exact meetR_congr (hB n hn)⟩
theorem Lim.nextR (x : AV) (m : Mem) {K : Nat → AV → Mem → R} {K' : AV → Mem → R} (hK : ∀ v m, Lim (fun n => K n v m) (K' v m)) : Lim (fun n => Abs.nextR x m (K n)) (Abs.nextR x m K') := by
  unfold Abs.nextR
  split
  · split
    · split
      · split
        · split
          · exact hK _ _
          · exact .meetR fun i => hK _ _
        · exact .const _
      · exact .const _
    · exact .const _
  · exact .const _

theorem Lim.guardA (sk : List Tmp) (ops : List Oper) (o : Oper) (t : List AV) {y n : Nat → List AV → R} {y' n' : List AV → R} (hy : ∀ t, Lim (y · t) (y' t)) (hn : ∀ t, Lim (n · t) (n' t)) :
    Lim (fun i => Abs.guardA sk ops o t (y i) (n i)) (Abs.guardA sk ops o t y' n') := by
  unfold Abs.guardA
  split
  · exact hy _
  · split
    · split
      · exact hn _
      · split
        · split
          · exact hy _
          · exact hn _
        · split
          · exact hn _
          · exact hy _
        · exact .const _
    · exact .const _

theorem Lim.opK {call : Nat → CallF} {c : CallF} (h : ∀ f a m, Lim (fun n => call n f a m) (c f a m)) (op : Op) (t : List AV) (m : Mem)
    {K : Nat → AV → Mem → R} {K' : AV → Mem → R} (hK : ∀ v m, Lim (fun n => K n v m) (K' v m)) :
    Lim (fun n => Abs.opK (call n) P op t m (K n)) (Abs.opK c P op t m K') := by
  unfold Abs.opK
  split
  · exact .bind (.const _) fun _ => hK _ _
  · exact .bind (.const _) fun _ => hK _ _
  · exact .bind (.const _) fun _ => hK _ _
  · exact .effK h _ _ _ hK

theorem Lim.opsK {call : Nat → CallF} {c : CallF} (h : ∀ f a m, Lim (fun n => call n f a m) (c f a m)) (all : List Oper)
    {K : Nat → List AV → Mem → R} {K' : List AV → Mem → R} (hK : ∀ v m, Lim (fun n => K n v m) (K' v m)) : ∀ (ops : List Oper) (sk : List Tmp) (t : List AV) (m : Mem),
    Lim (fun n => Abs.opsK (call n) P all ops sk t m (K n)) (Abs.opsK c P all ops sk t m K')
  | [], _, _, _ => hK _ _
  | o :: os, sk, t, m => by
    simp only [Abs.opsK]
    exact .guardA _ _ _ _ (fun _ => .opK h _ _ _ fun _ _ => Lim.opsK h all hK os _ _ _) (fun _ => Lim.opsK h all hK os _ _ _)

theorem Lim.chkR (f : Mem → Option AV) (v : AV) (c : List Nat) {K : Nat → R} {K' : R} (hK : Lim K K') : ∀ es, Lim (fun n => Abs.chkR f v c es (K n)) (Abs.chkR f v c es K')
  | [] => hK
  | (j, m) :: es => by
    simp only [Abs.chkR]
    split
    · split
      · exact Lim.chkR f v c hK es
      · exact .const _
    · exact Lim.chkR f v c hK es
theorem Lim.chkE (m : Mem) (c : List Nat) {K : Nat → R} {K' : R} (hK : Lim K K') : ∀ rs, Lim (fun n => Abs.chkE m c rs (K n)) (Abs.chkE m c rs K')
  | [] => hK
  | (j, f, v) :: rs => by
    simp only [Abs.chkE]
    split
    · split
      · exact Lim.chkE m c hK rs
      · exact .const _
    · exact Lim.chkE m c hK rs

theorem Lim.dopsK {call : Nat → CallF} {c : CallF} (h : ∀ f a m, Lim (fun n => call n f a m) (c f a m)) (all : List Oper)
    {K : Nat → List AV → Mem → R} {K' : List AV → Mem → R} (hK : ∀ v m, Lim (fun n => K n v m) (K' v m)) : ∀ (ops : List Oper) (cs : List (List Nat)) (sk : List Tmp) (i : Nat) (s : Seen) (t : List AV) (m : Mem),
    Lim (fun n => Abs.dopsK (call n) P all cs ops sk i s t m (K n)) (Abs.dopsK c P all cs ops sk i s t m K')
  | [], cs, _, _, _, _, _ => by cases cs <;> (simp only [Abs.dopsK]; exact hK _ _)
  | o :: os, [], _, _, _, _, _ => by simp only [Abs.dopsK]; exact .const _
  | o :: os, c :: cs, sk, i, s, t, m => by
    simp only [Abs.dopsK]
    refine .guardA _ _ _ _ (fun t => ?_) (fun _ => Lim.dopsK h all hK os cs _ _ _ _ _)
    split
    · exact .bind (.const _) fun _ => Lim.dopsK h all hK os cs _ _ _ _ _
    · exact .bind (.const _) fun _ => .chkR _ _ _ (Lim.dopsK h all hK os cs _ _ _ _ _) _
    · exact .bind (.const _) fun _ => Lim.dopsK h all hK os cs _ _ _ _ _
    · exact .effK h _ _ _ fun _ _ => .chkE _ _ (Lim.dopsK h all hK os cs _ _ _ _ _) _

theorem Lim.rangeEnd (b : Nat) (m : Mem) {go : Nat → Option Jmp → Mem → R} {go' : Option Jmp → Mem → R} (hg : ∀ j m, Lim (fun n => go n j m) (go' j m)) : Lim (fun n => Abs.rangeEnd b m (go n)) (Abs.rangeEnd b m go') := by
  unfold Abs.rangeEnd
  split
  · split
    · exact .const _
    · exact hg _ _
  · exact .const _
theorem Lim.rangeK {call : Nat → CallF} {c : CallF} (h : ∀ f a m, Lim (fun n => call n f a m) (c f a m)) (md : Md) (fv : AV) (l : LoopA) (m : Mem) {go : Nat → Option Jmp → Mem → R} {go' : Option Jmp → Mem → R} (hg : ∀ j m, Lim (fun n => go n j m) (go' j m)) :
    Lim (fun n => Abs.rangeK (call n) md fv l m (go n)) (Abs.rangeK c md fv l m go') := by
  unfold Abs.rangeK
  split
  · split
    · exact .bind (h _ _ _) fun _ => .rangeEnd _ _ hg
    · exact .const _
  · exact .const _
theorem Lim.roundK {m : Mem} {b : Nat} {args : List AV} {go : Nat → List AI → List AV → R} {go' : List AI → List AV → R} (hg : ∀ k t, Lim (fun n => go n k t) (go' k t)) : Lim (fun n => Abs.roundK m b args (go n)) (Abs.roundK m b args go') := by
  unfold Abs.roundK
  split
  · split
    · exact hg _ _
    · exact .const _
  · exact .const _

theorem Lim.stepK {call : Nat → CallF} {c : CallF} (h : ∀ f a m, Lim (fun n => call n f a m) (c f a m)) (md : Md) (k : List AI) (t : List AV) (m : Mem)
    {κ : Nat → List AI → List AV → Mem → R} {κ' : List AI → List AV → Mem → R} (hκ : ∀ k t m, Lim (fun n => κ n k t m) (κ' k t m)) :
    Lim (fun n => Abs.stepK E (call n) md k t m (κ n)) (Abs.stepK E c md k t m κ') := by
  unfold Abs.stepK
  split
  · exact .const _
  · exact hκ _ _ _
  · exact hκ _ _ _
  · exact .bind (.const _) fun _ => hκ _ _ _
  · exact hκ _ _ _
  · split
    · exact hκ _ _ _
    · split
      · exact .dopsK h _ (fun _ _ => hκ _ _ _) _ _ _ _ _ _ _
      · split
        · exact .bind (.const _) fun _ => .nextR _ _ fun _ _ => .opsK h _ (fun _ _ => hκ _ _ _) _ _ _ _
        · exact .opsK h _ (fun _ _ => hκ _ _ _) _ _ _ _
    · exact hκ _ _ _
    · refine .bind (.const _) fun v => ?_
      unfold condA
      split
      · exact hκ _ _ _
      · exact hκ _ _ _
      · exact .const _
    · exact hκ _ _ _
    · exact hκ _ _ _
    · exact hκ _ _ _
    · exact .bind (.const _) fun _ => .rangeK h _ _ _ _ fun _ _ => hκ _ _ _
    · split
      · exact hκ _ _ _
      · exact .const _
    · exact .const _
    · exact hκ _ _ _
    · split
      · exact hκ _ _ _
      · exact .const _

theorem Le.goF_run : ∀ (n : Nat), (∀ f a m, Le (runF E n f a m) (runF E (n + 1) f a m)) ∧ ∀ md k t m, Le (goF E (runF E n) md n k t m) (goF E (runF E (n + 1)) md (n + 1) k t m) := by
  have step : ∀ {call c : CallF} {κ κ' : List AI → List AV → Mem → R}, (∀ f a m, Le (call f a m) (c f a m)) → (∀ k t m, Le (κ k t m) (κ' k t m)) →
      ∀ md k t m, Le (stepK E call md k t m κ) (stepK E c md k t m κ') := by
    intro call c κ κ' h hκ md k t m
    have hl : Lim (fun n => stepK E (if n = 0 then call else c) md k t m (if n = 0 then κ else κ')) (stepK E c md k t m κ') := by
      refine Lim.stepK (call := fun n => if n = 0 then call else c) (κ := fun n => if n = 0 then κ else κ') ?_ md k t m ?_
      · intro f a m
        refine ⟨fun n => ?_, fun r hr => ⟨1, fun n hn => ?_⟩⟩
        · by_cases e : n = 0
          · simp only [e, if_true]; exact h _ _ _
          · simp only [e, if_false]; exact .refl _
        · simp only [show n ≠ 0 by omega, if_false]; exact hr
      · intro k t m
        refine ⟨fun n => ?_, fun r hr => ⟨1, fun n hn => ?_⟩⟩
        · by_cases e : n = 0
          · simp only [e, if_true]; exact hκ _ _ _
          · simp only [e, if_false]; exact .refl _
        · simp only [show n ≠ 0 by omega, if_false]; exact hr
    exact hl.1 0
  intro n
  have go : ∀ (n : Nat) {call c : CallF}, (∀ f a m, Le (call f a m) (c f a m)) → ∀ md j k t m, n ≤ j → Le (goF E call md n k t m) (goF E c md j k t m) := by
    intro n
    induction n with
    | zero => intro _ _ _ _ _ _ _ _ _; exact .none _
    | succ n ih =>
      intro call c h md j k t m hj
      obtain ⟨j, rfl⟩ : ∃ i, j = i + 1 := ⟨j - 1, by omega⟩
      exact step h (fun k t m => ih h md j k t m (by omega)) md k t m
  induction n with
  | zero => exact ⟨fun _ _ _ => .none _, fun _ _ _ _ => .none _⟩
  | succ n ih =>
    have h1 : ∀ f a m, Le (runF E (n + 1) f a m) (runF E (n + 1 + 1) f a m) := by
      intro f a m
      cases f with
      | fn f =>
        simp only [runF]
        cases E.H f with
        | some h => exact .refl _
        | none =>
          cases E.B f with
          | none => exact .refl _
          | some b => exact go n ih.1 _ _ _ _ _ (by omega)
      | yl b =>
        simp only [runF]
        unfold Abs.roundK
        split
        · split
          · exact go n ih.1 _ _ _ _ _ (by omega)
          · exact .none _
        · exact .none _
    exact ⟨h1, fun md k t m => go (n + 1) h1 md _ k t m (by omega)⟩

open Classical in
noncomputable def run (E : Env) : CallF := fun f a m => if h : ∃ r n, runF E n f a m = some r then some h.choose else none
open Classical in
noncomputable def go (E : Env) (md : Md) (k : List AI) (t : List AV) (m : Mem) : R := if h : ∃ r n, goF E (runF E n) md n k t m = some r then some h.choose else none

theorem lim_of_chain {α : Type} {f : Nat → Option α} (h : ∀ n, Le (f n) (f (n + 1))) (g : Option α) (hg : ∀ r, g = some r → ∃ n, f n = some r) (hg' : ∀ n r, f n = some r → (∃ r', g = some r')) : Lim f g := by
  have up : ∀ n j, n ≤ j → Le (f n) (f j) := by
    intro n j hj
    induction j with
    | zero => have : n = 0 := by omega
              subst this; exact .refl _
    | succ j ih =>
      by_cases e : n = j + 1
      · subst e; exact .refl _
      · exact (ih (by omega)).trans (h j)
  refine ⟨fun n r hr => ?_, fun r hr => ?_⟩
  · obtain ⟨r', hr'⟩ := hg' n r hr
    obtain ⟨n', hn'⟩ := hg r' hr'
    have a := up n (max n n') (by omega) r hr
    have b := up n' (max n n') (by omega) r' hn'
    rw [a] at b; cases b; exact hr'
  · obtain ⟨n, hn⟩ := hg r hr
    exact ⟨n, fun j hj => up n j hj r hn⟩

theorem lim_run (f : Tg) (a : List AV) (m : Mem) : Lim (fun n => runF E n f a m) (run E f a m) := by
  refine lim_of_chain (fun n => (Le.goF_run n).1 f a m) _ ?_ ?_
  · intro r hr
    unfold run at hr
    split at hr
    · rename_i h
      cases hr; exact h.choose_spec
    · simp at hr
  · intro n r hr
    unfold run
    rw [dif_pos ⟨r, n, hr⟩]
    exact ⟨_, rfl⟩

theorem lim_go (md : Md) (k : List AI) (t : List AV) (m : Mem) : Lim (fun n => goF E (runF E n) md n k t m) (go E md k t m) := by
  refine lim_of_chain (fun n => (Le.goF_run n).2 md k t m) _ ?_ ?_
  · intro r hr
    unfold go at hr
    split at hr
    · rename_i h
      cases hr; exact h.choose_spec
    · simp at hr
  · intro n r hr
    unfold go
    rw [dif_pos ⟨r, n, hr⟩]
    exact ⟨_, rfl⟩

theorem Lim.unique {α : Type} {f : Nat → Option α} {g g' : Option α} (h : Lim f g) (h' : Lim f g') : g = g' := by
  cases hg : g with
  | some r => obtain ⟨N, hN⟩ := h.2 r hg; exact (h'.1 N r (hN N (Nat.le_refl N))).symm
  | none =>
    cases hg' : g' with
    | none => rfl
    | some r => obtain ⟨N, hN⟩ := h'.2 r hg'; have := h.1 N r (hN N (Nat.le_refl N)); rw [hg] at this; simp at this

theorem Lim.shift {α : Type} {f : Nat → Option α} {g : Option α} (h : Lim f g) : Lim (fun n => f (n + 1)) g :=
  ⟨fun n => h.1 (n + 1), fun r hr => let ⟨N, hN⟩ := h.2 r hr; ⟨N, fun n hn => hN (n + 1) (by omega)⟩⟩

theorem go_step (md : Md) (k : List AI) (t : List AV) (m : Mem) : go E md k t m = stepK E (run E) md k t m (go E md) := by
  have h1 : Lim (fun n => goF E (runF E n) md (n + 1) k t m) (stepK E (run E) md k t m (go E md)) :=
    Lim.stepK (call := fun n => runF E n) (κ := fun n => goF E (runF E n) md n) lim_run md k t m (lim_go md)
  have h2 : Lim (fun n => goF E (runF E n) md (n + 1) k t m) (go E md k t m) := by
    have hg := lim_go (E := E) md k t m
    have up : ∀ n, Le (goF E (runF E n) md (n + 1) k t m) (goF E (runF E (n + 1)) md (n + 1) k t m) := by
      intro n
      have hl : Lim (fun i => goF E (if i = 0 then runF E n else runF E (n + 1)) md (n + 1) k t m) (goF E (runF E (n + 1)) md (n + 1) k t m) := by
        have : ∀ (j : Nat) k t m, Lim (fun i => goF E (if i = 0 then runF E n else runF E (n + 1)) md j k t m) (goF E (runF E (n + 1)) md j k t m) := by
          intro j
          induction j with
          | zero => intro _ _ _; exact .const _
          | succ j ih =>
            intro k t m
            refine Lim.stepK (call := fun i => if i = 0 then runF E n else runF E (n + 1)) (κ := fun i => goF E (if i = 0 then runF E n else runF E (n + 1)) md j) ?_ md k t m ih
            intro f a m
            refine ⟨fun i => ?_, fun r hr => ⟨1, fun i hi => ?_⟩⟩
            · by_cases e : i = 0
              · simp only [e, if_true]; exact (Le.goF_run n).1 _ _ _
              · simp only [e, if_false]; exact .refl _
            · simp only [show i ≠ 0 by omega, if_false]; exact hr
        exact this _ _ _ _
      exact hl.1 0
    have down : ∀ n, Le (goF E (runF E n) md n k t m) (goF E (runF E n) md (n + 1) k t m) := by
      intro n
      have : ∀ (j : Nat) (call : CallF) k t m, Le (goF E call md j k t m) (goF E call md (j + 1) k t m) := by
        intro j call
        induction j with
        | zero => intro _ _ _; exact .none _
        | succ j ih =>
          intro k t m
          have hl : Lim (fun i => stepK E call md k t m (if i = 0 then goF E call md j else goF E call md (j + 1))) (stepK E call md k t m (goF E call md (j + 1))) := by
            refine Lim.stepK (call := fun _ => call) (κ := fun i => if i = 0 then goF E call md j else goF E call md (j + 1)) (fun _ _ _ => .const _) md k t m ?_
            intro k t m
            refine ⟨fun i => ?_, fun r hr => ⟨1, fun i hi => ?_⟩⟩
            · by_cases e : i = 0
              · simp only [e, if_true]; exact ih _ _ _
              · simp only [e, if_false]; exact .refl _
            · simp only [show i ≠ 0 by omega, if_false]; exact hr
          exact hl.1 0
      exact this n _ k t m
    refine ⟨fun n => (up n).trans (hg.1 (n + 1)), fun r hr => ?_⟩
    obtain ⟨N, hN⟩ := hg.2 r hr
    exact ⟨N, fun n hn => down n r (hN n hn)⟩
  exact h2.unique h1

theorem go_unfold (md : Md) : ∀ (j : Nat) (k : List AI) (t : List AV) (m : Mem), go E md k t m = goC E (run E) md (go E md) j k t m := by
  intro j
  induction j with
  | zero => intro _ _ _; rfl
  | succ j ih =>
    intro k t m
    rw [go_step]
    have hκ : go E md = goC E (run E) md (go E md) j := by funext k t m; exact ih k t m
    unfold goC
    split
    · rfl
    · rfl
    · exact congrArg (fun κ => stepK E (run E) md _ t m κ) hκ

theorem run_body {f : FuncId} {rs : List ResultVar} {nt : Nat} {c : AC} (hH : E.H f = none) (hB : E.B f = some (rs, nt, c)) (args : List AV) (m : Mem) :
    run E (.fn f) args m = go E (.fn rs) [.code c] (args ++ List.replicate (nt - args.length) .undef) m := by
  have h1 : Lim (fun n => runF E (n + 1) (.fn f) args m) (run E (.fn f) args m) := (lim_run (E := E) (.fn f) args m).shift
  have h2 : (fun n => runF E (n + 1) (.fn f) args m) = fun n => goF E (runF E n) (.fn rs) n [.code c] (args ++ List.replicate (nt - args.length) .undef) m := by
    funext n; simp only [runF, hH, hB]
  rw [h2] at h1
  exact h1.unique (lim_go _ _ _ _)

theorem run_round (b : Nat) (args : List AV) (m : Mem) : run E (.yl b) args m = roundK m b args fun k t => go E (.rd b) k t m := by
  have h1 : Lim (fun n => runF E (n + 1) (.yl b) args m) (run E (.yl b) args m) := (lim_run (E := E) (.yl b) args m).shift
  have h2 : (fun n => runF E (n + 1) (.yl b) args m) = fun n => roundK m b args fun k t => goF E (runF E n) (.rd b) n k t m := by
    funext n; simp only [runF]
  rw [h2] at h1
  exact h1.unique (Lim.roundK fun _ _ => lim_go _ _ _ _)

theorem run_hook {f : FuncId} {h : List AV → Mem → R} (hH : E.H f = some h) (args : List AV) (m : Mem) : run E (.fn f) args m = h args m := by
  have h1 : Lim (fun n => runF E (n + 1) (.fn f) args m) (run E (.fn f) args m) := (lim_run (E := E) (.fn f) args m).shift
  have h2 : (fun n => runF E (n + 1) (.fn f) args m) = fun _ => h args m := by funext n; simp only [runF, hH]
  rw [h2] at h1
  exact h1.unique (.const _)

theorem run_fuel {f : Tg} {args : List AV} {m : Mem} {r : AV × Mem} (h : run E f args m = some r) : ∃ n, runF E n f args m = some r :=
  let ⟨N, hN⟩ := (lim_run (E := E) f args m).2 r h
  ⟨N, hN N (Nat.le_refl N)⟩
theorem run_of_fuel {f : Tg} {args : List AV} {m : Mem} {r : AV × Mem} (n : Nat) (h : runF E n f args m = some r) : run E f args m = some r :=
  (lim_run (E := E) f args m).1 n r h
end
end Go.Abs
end
