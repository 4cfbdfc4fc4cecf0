/- An abstract evaluator for the model's programs: abstract values, abstract memory, the evaluator. No statement of a claim stands here. -/
import Derived.Calls
namespace Go.Abs
open Go

/-- An abstract address. -/
structure AA where
  b : Nat
  o : Nat
  deriving DecidableEq

/-- Abstract values: 'undef' says nothing of the value. 'sl': 'ex' says that the capacity is exact; else the true one is at least that. -/
inductive AV where
  | undef
  | bool (b : Bool)
  | int (k : IntKind) (n : Int)
  | str (s : List UInt8)
  | ptr (a : Option AA)
  | sl (a : Option AA) (sz len cap : Nat) (ex : Bool)
  | map (r : Option Nat)
  | fn (f : Fn) (first captured : List AV)
  | yld (b : Nat)
  | nilFn
  | iface (t : TypeId) (v : AV)
  | nilIface
  | agg (cs : List AV)
  | tup (vs : List AV)

instance : Inhabited AV := ⟨.undef⟩

mutual
def AV.beq : AV → AV → Bool
  | .undef, .undef => true
  | .bool a, .bool b => a == b
  | .int j a, .int k b => decide (j = k) && decide (a = b)
  | .str a, .str b => decide (a = b)
  | .ptr a, .ptr b => decide (a = b)
  | .sl a s l c e, .sl a' s' l' c' e' => decide (a = a') && decide (s = s') && decide (l = l') && decide (c = c') && decide (e = e')
  | .map a, .map b => decide (a = b)
  | .fn f x y, .fn g z u => decide (f = g) && AV.beqs x z && AV.beqs y u
  | .yld a, .yld b => decide (a = b)
  | .nilFn, .nilFn => true
  | .iface t v, .iface u w => decide (t = u) && AV.beq v w
  | .nilIface, .nilIface => true
  | .agg a, .agg b => AV.beqs a b
  | .tup a, .tup b => AV.beqs a b
  | _, _ => false
def AV.beqs : List AV → List AV → Bool
  | [], [] => true
  | a :: as, b :: bs => AV.beq a b && AV.beqs as bs
  | _, _ => false
end

mutual
theorem AV.eq_of_beq : ∀ {a b : AV}, AV.beq a b = true → a = b
  | .undef, b, h => by cases b <;> simp_all [AV.beq]
  | .bool _, b, h => by cases b <;> simp_all [AV.beq]
  | .int .., b, h => by cases b <;> simp_all [AV.beq]
  | .str _, b, h => by cases b <;> simp_all [AV.beq]
  | .ptr _, b, h => by cases b <;> simp_all [AV.beq]
  | .sl .., b, h => by cases b <;> simp_all [AV.beq]
  | .map _, b, h => by cases b <;> simp_all [AV.beq]
  | .yld _, b, h => by cases b <;> simp_all [AV.beq]
  | .fn f x y, b, h => by
    cases b with
    | fn g z u =>
      simp only [AV.beq, Bool.and_eq_true, decide_eq_true_eq] at h
      rw [h.1.1, AV.eqs_of_beqs h.1.2, AV.eqs_of_beqs h.2]
    | _ => simp [AV.beq] at h
  | .nilFn, b, h => by cases b <;> simp_all [AV.beq]
  | .iface t v, b, h => by
    cases b with
    | iface u w =>
      simp only [AV.beq, Bool.and_eq_true, decide_eq_true_eq] at h
      rw [h.1, AV.eq_of_beq h.2]
    | _ => simp [AV.beq] at h
  | .nilIface, b, h => by cases b <;> simp_all [AV.beq]
  | .agg a, b, h => by
    cases b with
    | agg c => simp only [AV.beq] at h; rw [AV.eqs_of_beqs h]
    | _ => simp [AV.beq] at h
  | .tup a, b, h => by
    cases b with
    | tup c => simp only [AV.beq] at h; rw [AV.eqs_of_beqs h]
    | _ => simp [AV.beq] at h
theorem AV.eqs_of_beqs : ∀ {a b : List AV}, AV.beqs a b = true → a = b
  | [], [], _ => rfl
  | a :: as, b :: bs, h => by
    simp only [AV.beqs, Bool.and_eq_true] at h
    rw [AV.eq_of_beq h.1, AV.eqs_of_beqs h.2]
  | [], _ :: _, h => by simp [AV.beqs] at h
  | _ :: _, [], h => by simp [AV.beqs] at h
end

mutual
theorem AV.beq_refl : ∀ a : AV, AV.beq a a = true
  | .undef | .bool _ | .int .. | .str _ | .ptr _ | .sl .. | .map _ | .yld _ | .nilFn | .nilIface => by simp [AV.beq]
  | .fn f x y => by simp [AV.beq, AV.beqs_refl x, AV.beqs_refl y]
  | .iface t v => by simp [AV.beq, AV.beq_refl v]
  | .agg a => by simp [AV.beq, AV.beqs_refl a]
  | .tup a => by simp [AV.beq, AV.beqs_refl a]
theorem AV.beqs_refl : ∀ a : List AV, AV.beqs a a = true
  | [] => rfl
  | a :: as => by simp [AV.beqs, AV.beq_refl a, AV.beqs_refl as]
end

instance : DecidableEq AV := fun a b => if h : AV.beq a b = true then .isTrue (AV.eq_of_beq h) else .isFalse fun e => h (e ▸ AV.beq_refl a)

/-- May it be stored in one cell? -/
def AV.one : AV → Bool
  | .undef | .agg _ | .tup _ => false
  | _ => true

/-- A part of an aggregate. -/
def AV.part : AV → Bool
  | .agg _ | .tup _ => false
  | _ => true

/-- The cells of a value that is to be stored or laid; none of a value of which nothing is known. -/
def AV.cells : AV → Option (List AV)
  | .agg cs => if cs.all AV.one then some cs else none
  | .undef | .tup _ => none
  | v => some [v]

/-- Where a round may jump to, out of it. -/
inductive Jmp where
  | ret
  | exit (id : Nat)
  deriving DecidableEq

/-- Code with marks: 'pt' forgets what is not live. -/
inductive AC where
  | skip
  | region (id : Nat) (ops : List Oper) (draw : Bool) (chk anc : List (List Nat))
  | seq (a b : AC)
  | cond (c : Operand) (thn els : AC)
  | block (id : Nat) (body : AC)
  | loop (body : AC)
  | rangeFunc (f : Operand) (params : List Tmp) (assign body : AC)
  | scope (body : AC)
  | exit (id : Nat)
  | ret
  | pt (live : List Bool) (c : AC)
  | other (c : Code)

def AC.erase : AC → Code
  | .skip => .skip
  | .region id ops draw _ _ => .region id ⟨ops⟩ draw
  | .seq a b => .seq a.erase b.erase
  | .cond c x y => .cond c x.erase y.erase
  | .block id b => .block id b.erase
  | .loop b => .loop b.erase
  | .rangeFunc f ps a b => .rangeFunc f ⟨ps⟩ a.erase b.erase
  | .scope b => .scope b.erase
  | .exit id => .exit id
  | .ret => .ret
  | .pt _ c => c.erase
  | .other c => c

def Jmp.code : Jmp → AC
  | .ret => .ret
  | .exit id => .exit id

/-- A loop over a function, as it stands. -/
structure LoopA where
  state : LoopState
  pending : Option Jmp
  tmps : List AV
  params : List Tmp
  assign : AC
  body : AC

/-- A block of the abstract memory; 'ro': it is never written. A map's entries: in whatever order. -/
inductive Blk where
  | cells (cs : List AV) (ro : Bool)
  | loop (l : LoopA)
  | map (es : List (AV × AV))

/-- Trees by the digits of a number. -/
inductive PT where
  | leaf
  | node (v : Option Blk) (l r : PT)

noncomputable def PT.get (t : PT) (k : Nat) : Option Blk :=
  PT.rec (motive := fun _ => Nat → Option Blk) (fun _ => none)
    (fun v _ _ l r k => Bool.rec (motive := fun _ => Option Blk) (Bool.rec (motive := fun _ => Option Blk) (r (Nat.pred (Nat.div k 2))) (l (Nat.div k 2)) (Nat.beq (Nat.mod k 2) 1)) v (Nat.beq k 0)) t k

def PT.val : PT → Option Blk
  | .leaf => none
  | .node v _ _ => v
def PT.lft : PT → PT
  | .leaf => .leaf
  | .node _ l _ => l
def PT.rgt : PT → PT
  | .leaf => .leaf
  | .node _ _ r => r

noncomputable def PT.setN (f : Nat) (t : PT) (k : Nat) (v : Option Blk) : PT :=
  Nat.rec (motive := fun _ => PT → Nat → PT) (fun t _ => .node v t.lft t.rgt)
    (fun _ ih t k => Bool.rec (motive := fun _ => PT) (Bool.rec (motive := fun _ => PT) (.node t.val t.lft (ih t.rgt (Nat.pred (Nat.div k 2)))) (.node t.val (ih t.lft (Nat.div k 2)) t.rgt) (Nat.beq (Nat.mod k 2) 1)) (.node v t.lft t.rgt) (Nat.beq k 0)) f t k

noncomputable def PT.set (t : PT) (k : Nat) (v : Option Blk) : PT := PT.setN k t k v

theorem beqN (a b : Nat) : Nat.beq a b = decide (a = b) := by
  by_cases h : a = b
  · subst h; rw [Nat.beq_refl]; simp
  · rw [decide_eq_false h]; cases e : Nat.beq a b with
    | false => rfl
    | true => exact absurd (Nat.eq_of_beq_eq_true e) h
theorem PT.get_leaf (k : Nat) : PT.leaf.get k = none := rfl
theorem PT.get_node' (v : Option Blk) (l r : PT) (k : Nat) : (PT.node v l r).get k = if k = 0 then v else if k % 2 = 1 then l.get (k / 2) else r.get (k / 2 - 1) := by
  have hu : (PT.node v l r).get k = Bool.rec (motive := fun _ => Option Blk) (Bool.rec (motive := fun _ => Option Blk) (r.get (Nat.pred (Nat.div k 2))) (l.get (Nat.div k 2)) (Nat.beq (Nat.mod k 2) 1)) v (Nat.beq k 0) := rfl
  rw [hu, beqN, beqN]
  by_cases h : k = 0
  · rw [decide_eq_true h, if_pos h]
  · rw [decide_eq_false h, if_neg h]
    by_cases h2 : k % 2 = 1
    · rw [decide_eq_true (show Nat.mod k 2 = 1 from h2), if_pos h2]; rfl
    · rw [decide_eq_false (show ¬ Nat.mod k 2 = 1 from h2), if_neg h2]; rfl
theorem PT.setN_succ (f : Nat) (t : PT) (k : Nat) (v : Option Blk) : PT.setN (f + 1) t k v = if k = 0 then .node v t.lft t.rgt else if k % 2 = 1 then .node t.val (PT.setN f t.lft (k / 2) v) t.rgt else .node t.val t.lft (PT.setN f t.rgt (k / 2 - 1) v) := by
  have hu : PT.setN (f + 1) t k v = Bool.rec (motive := fun _ => PT) (Bool.rec (motive := fun _ => PT) (.node t.val t.lft (PT.setN f t.rgt (Nat.pred (Nat.div k 2)) v)) (.node t.val (PT.setN f t.lft (Nat.div k 2) v) t.rgt) (Nat.beq (Nat.mod k 2) 1)) (.node v t.lft t.rgt) (Nat.beq k 0) := rfl
  rw [hu, beqN, beqN]
  by_cases h : k = 0
  · rw [decide_eq_true h, if_pos h]
  · rw [decide_eq_false h, if_neg h]
    by_cases h2 : k % 2 = 1
    · rw [decide_eq_true (show Nat.mod k 2 = 1 from h2), if_pos h2]; rfl
    · rw [decide_eq_false (show ¬ Nat.mod k 2 = 1 from h2), if_neg h2]; rfl

theorem PT.get_node (t : PT) (k : Nat) : t.get k = if k = 0 then t.val else if k % 2 = 1 then t.lft.get (k / 2) else t.rgt.get (k / 2 - 1) := by
  cases t with
  | leaf => simp [PT.get, PT.val, PT.lft, PT.rgt]
  | node v l r => exact PT.get_node' v l r k

theorem PT.get_setN : ∀ (f : Nat) (t : PT) (k : Nat) (v : Option Blk) (j : Nat), k ≤ f → (PT.setN f t k v).get j = if j = k then v else t.get j
  | 0, t, k, v, j, h => by
    have hk : k = 0 := by omega
    subst hk
    have hu : PT.setN 0 t 0 v = .node v t.lft t.rgt := rfl
    rw [PT.get_node t j, hu, PT.get_node']
    by_cases hj : j = 0 <;> simp [hj]
  | f + 1, t, k, v, j, h => by
    rw [PT.get_node t j, PT.setN_succ]
    by_cases hk : k = 0
    · subst hk; rw [if_pos rfl, PT.get_node']; by_cases hj : j = 0 <;> simp [hj]
    · simp only [if_neg hk]
      by_cases hk2 : k % 2 = 1
      · simp only [if_pos hk2]
        rw [PT.get_node', PT.get_setN f t.lft (k / 2) v (j / 2) (by omega)]
        by_cases hj : j = 0
        · simp only [hj, if_true]; rw [if_neg (by omega)]
        · simp only [if_neg hj]
          by_cases hj2 : j % 2 = 1
          · simp only [if_pos hj2]
            by_cases e : j = k
            · subst e; simp
            · rw [if_neg (by omega), if_neg e]
          · simp only [if_neg hj2]; rw [if_neg (by omega)]
      · simp only [if_neg hk2]
        rw [PT.get_node', PT.get_setN f t.rgt (k / 2 - 1) v (j / 2 - 1) (by omega)]
        by_cases hj : j = 0
        · simp only [hj, if_true]; rw [if_neg (by omega)]
        · simp only [if_neg hj]
          by_cases hj2 : j % 2 = 1
          · simp only [if_pos hj2]; rw [if_neg (by omega)]
          · simp only [if_neg hj2]
            by_cases e : j = k
            · subst e; simp
            · rw [if_neg (by omega), if_neg e]

structure Mem where
  next : Nat
  tab : PT

noncomputable def Mem.get (m : Mem) (b : Nat) : Option Blk := Bool.rec (motive := fun _ => Option Blk) none (m.tab.get b) (Nat.ble (Nat.succ b) m.next)
theorem Mem.get_def (m : Mem) (b : Nat) : m.get b = if b < m.next then m.tab.get b else none := by
  unfold Mem.get
  by_cases h : b < m.next
  · rw [if_pos h, Nat.ble_eq_true_of_le h]
  · rw [if_neg h]; cases e : Nat.ble (Nat.succ b) m.next with
    | false => rfl
    | true => exact absurd (Nat.le_of_ble_eq_true e) h
noncomputable def Mem.lay (m : Mem) (v : Blk) : Mem := ⟨m.next + 1, m.tab.set m.next (some v)⟩
noncomputable abbrev Mem.alloc (m : Mem) (cs : List AV) : Mem := m.lay (.cells cs false)
noncomputable def Mem.put (m : Mem) (b : Nat) (v : Option Blk) : Mem := ⟨m.next, m.tab.set b v⟩

theorem PT.get_set (t : PT) (k : Nat) (v : Option Blk) (j : Nat) : (t.set k v).get j = if j = k then v else t.get j := PT.get_setN k t k v j (Nat.le_refl k)

@[simp] theorem Mem.next_lay (m : Mem) (v : Blk) : (m.lay v).next = m.next + 1 := rfl
theorem Mem.next_alloc (m : Mem) (cs : List AV) : (m.alloc cs).next = m.next + 1 := rfl
@[simp] theorem Mem.next_put (m : Mem) (b : Nat) (v : Option Blk) : (m.put b v).next = m.next := rfl
theorem Mem.get_lay (m : Mem) (v : Blk) (b : Nat) : (m.lay v).get b = if b = m.next then some v else m.get b := by
  simp only [Mem.get_def, Mem.lay, PT.get_set]
  by_cases h : b = m.next
  · subst h; simp
  · simp only [if_neg h]
    by_cases h2 : b < m.next
    · rw [if_pos h2, if_pos (by omega)]
    · rw [if_neg h2, if_neg (by omega)]
theorem Mem.get_alloc (m : Mem) (cs : List AV) (b : Nat) : (m.alloc cs).get b = if b = m.next then some (.cells cs false) else m.get b := Mem.get_lay m _ b
theorem Mem.get_put (m : Mem) (b : Nat) (v : Option Blk) (c : Nat) : (m.put b v).get c = if c = b ∧ b < m.next then v else m.get c := by
  simp only [Mem.get_def, Mem.put, PT.get_set]
  by_cases h : c = b
  · subst h
    by_cases h2 : c < m.next <;> simp [h2]
  · simp [h]
theorem Mem.get_lt {m : Mem} {b : Nat} {v : Blk} (h : m.get b = some v) : b < m.next := by
  rw [Mem.get_def] at h
  by_cases hb : b < m.next
  · exact hb
  · simp [hb] at h
theorem Mem.get_ge {m : Mem} {b : Nat} (h : m.next ≤ b) : m.get b = none := by
  rw [Mem.get_def, if_neg (by omega)]

/-- Cells read, and written. -/
noncomputable def ldCells (m : Mem) (a : AA) (n : Nat) : Option (List AV) :=
  match m.get a.b with
  | some (.cells cs _) => if a.o + n ≤ cs.length then some ((cs.drop a.o).take n) else none
  | _ => none
noncomputable def stCells (m : Mem) (a : AA) (vs : List AV) : Option Mem :=
  match m.get a.b with
  | some (.cells cs false) => if a.o + vs.length ≤ cs.length then some (m.put a.b (some (.cells (cs.take a.o ++ vs ++ cs.drop (a.o + vs.length)) false))) else none
  | _ => none

noncomputable def ld1 (m : Mem) (v : AV) : Option AV :=
  match v with
  | .ptr (some a) => match m.get a.b with
    | some (.cells cs _) => cs[a.o]?
    | _ => none
  | _ => none
noncomputable def ldN (m : Mem) (v : AV) (n : Nat) : Option AV :=
  match v with
  | .ptr (some a) => (ldCells m a n).map AV.agg
  | _ => none
noncomputable def stV (m : Mem) (p v : AV) (n : Nat) : Option Mem :=
  match p with
  | .ptr (some a) => match v.cells with
    | some cs => if cs.length = n then stCells m a cs else none
    | none => none
  | _ => none

/-- The abstract value of a constant. -/
def ofV : Value → Option AV
  | .bool b => some (.bool b)
  | .int k n => some (.int k n)
  | .string s => some (.str s.data.toList)
  | .pointer none => some (.ptr none)
  | .slice none 0 0 => some (.sl none 0 0 0 true)
  | .map none => some (.map none)
  | .func f ⟨[]⟩ ⟨[]⟩ => some (.fn f [] [])
  | .nilFunc => some .nilFn
  | .nilIface => some .nilIface
  | .agg ⟨cs⟩ => (ofParts cs).map AV.agg
  | _ => none
 where
  ofPart : Value → Option AV
    | .bool b => some (.bool b)
    | .int k n => some (.int k n)
    | .string s => some (.str s.data.toList)
    | .pointer none => some (.ptr none)
    | .slice none 0 0 => some (.sl none 0 0 0 true)
    | .map none => some (.map none)
    | .nilFunc => some .nilFn
    | .nilIface => some .nilIface
    | _ => none
  ofParts : List Value → Option (List AV)
    | [] => some []
    | v :: vs => match ofPart v, ofParts vs with
      | some a, some as => some (a :: as)
      | _, _ => none

/-- A list's places, quickly read and set by the kernel. -/
noncomputable def nth (l : List AV) : Nat → AV := List.rec (motive := fun _ => Nat → AV) (fun _ => .undef) (fun a _ ih k => Nat.rec (motive := fun _ => AV) a (fun j _ => ih j) k) l
noncomputable def setF (l : List AV) (k : Nat) (v : AV) : List AV := List.rec (motive := fun _ => Nat → List AV) (fun _ => []) (fun a t ih k => Nat.rec (motive := fun _ => List AV) (v :: t) (fun j _ => a :: ih j) k) l k
theorem nth_eq : ∀ (l : List AV) (k : Nat), nth l k = l.getD k .undef
  | [], k => by simp [nth]
  | _ :: _, 0 => rfl
  | a :: l, k + 1 => by
    have hu : nth (a :: l) (k + 1) = nth l k := rfl
    rw [hu, nth_eq l k]; simp
theorem setF_eq : ∀ (l : List AV) (k : Nat) (v : AV), setF l k v = l.set k v
  | [], k, v => rfl
  | _ :: _, 0, _ => rfl
  | a :: l, k + 1, v => by
    have hu : setF (a :: l) (k + 1) v = a :: setF l k v := rfl
    rw [hu, setF_eq l k v]; rfl

/-- What an operand is worth. -/
noncomputable def ev (P : Program) (t : List AV) : Operand → Option AV
  | .tmp i => some (nth t i)
  | .const v => ofV v
  | .global g => if g < P.globals.size then some (.ptr (some ⟨g, 0⟩)) else none
  | .func f => some (.fn (.func f) [] [])

noncomputable def evs (P : Program) (t : List AV) : List Operand → Option (List AV)
  | [] => some []
  | x :: xs => match ev P t x, evs P t xs with
    | some a, some as => some (a :: as)
    | _, _ => none

end Go.Abs
