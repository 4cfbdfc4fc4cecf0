/- The relation between abstract and true values, and memories. -/
import Derived.Test.YtpoafkipnjfioaaGreatAbs2
import Derived.Laws.Sem
import Derived.Orders
namespace Go.Abs
open Go

/-- Where an abstract block lies: in which block, from which cell on, and how many cells that block has. -/
structure CI where
  c : Nat
  d : Nat
  n : Nat

abbrev Phi := Nat → Option CI

def Phi.le (p q : Phi) : Prop := ∀ b ci, p b = some ci → q b = some ci

/-- A slice and its true value. -/
def SR (p : Phi) (a : AA) (sz len cap : Nat) (ex : Bool) (v : Value) : Prop :=
  ∃ ci off cap', p a.b = some ci ∧ v = .slice (some ⟨ci.c, off, none⟩) len cap' ∧ len ≤ cap ∧ cap ≤ cap' ∧ (ex = true → cap' = cap) ∧
    (ex = false → off + cap' * sz ≤ ci.n) ∧ (0 < cap' → off = a.o + ci.d)

mutual
def VR (p : Phi) : AV → Value → Prop
  | .undef, _ => True
  | .bool b, v => v = .bool b
  | .int k n, v => v = .int k n
  | .str s, v => v = .string ⟨⟨s⟩⟩
  | .ptr none, v => v = .pointer none
  | .ptr (some a), v => ∃ ci, p a.b = some ci ∧ v = .pointer (some ⟨ci.c, a.o + ci.d, none⟩)
  | .sl none _ len cap _, v => len = 0 ∧ cap = 0 ∧ v = .slice none 0 0
  | .sl (some a) sz len cap ex, v => SR p a sz len cap ex v
  | .map none, v => v = .map none
  | .map (some r), v => ∃ ci, p r = some ci ∧ v = .map (some ci.c)
  | .fn f x y, v => ∃ x' y', v = .func f ⟨x'⟩ ⟨y'⟩ ∧ VRs p x x' ∧ VRs p y y'
  | .yld b, v => ∃ ci, p b = some ci ∧ v = .func (.yield ci.c) #[] #[]
  | .nilFn, v => v = .nilFunc
  | .iface t u, v => ∃ u', v = .iface t u' ∧ VR p u u'
  | .nilIface, v => v = .nilIface
  | .agg cs, v => ∃ cs', v = .agg ⟨cs'⟩ ∧ VRs p cs cs'
  | .tup vs, v => ∃ vs', v = .tuple ⟨vs'⟩ ∧ VRs p vs vs'
def VRs (p : Phi) : List AV → List Value → Prop
  | [], vs => vs = []
  | a :: as, vs => ∃ v vs', vs = v :: vs' ∧ VR p a v ∧ VRs p as vs'
end

mutual
theorem VR.mono {p q : Phi} (h : p.le q) : ∀ {a : AV} {v : Value}, VR p a v → VR q a v
  | .undef, _, _ => by simp [VR]
  | .bool _, _, r => by simpa [VR] using r
  | .int .., _, r => by simpa [VR] using r
  | .str _, _, r => by simpa [VR] using r
  | .ptr none, _, r => by simpa [VR] using r
  | .ptr (some a), _, r => by
    simp only [VR] at r ⊢
    obtain ⟨ci, h1, h2⟩ := r
    exact ⟨ci, h _ _ h1, h2⟩
  | .sl none .., _, r => by simpa [VR] using r
  | .sl (some a) .., _, r => by
    simp only [VR, SR] at r ⊢
    obtain ⟨ci, off, cap', h1, h2⟩ := r
    exact ⟨ci, off, cap', h _ _ h1, h2⟩
  | .map none, _, r => by simpa [VR] using r
  | .map (some a), _, r => by
    simp only [VR] at r ⊢
    obtain ⟨ci, h1, h2⟩ := r
    exact ⟨ci, h _ _ h1, h2⟩
  | .fn f x y, _, r => by
    simp only [VR] at r ⊢
    obtain ⟨x', y', h1, h2, h3⟩ := r
    exact ⟨x', y', h1, VRs.mono h h2, VRs.mono h h3⟩
  | .yld b, _, r => by
    simp only [VR] at r ⊢
    obtain ⟨ci, h1, h2⟩ := r
    exact ⟨ci, h _ _ h1, h2⟩
  | .nilFn, _, r => by simpa [VR] using r
  | .iface t u, _, r => by
    simp only [VR] at r ⊢
    obtain ⟨u', h1, h2⟩ := r
    exact ⟨u', h1, VR.mono h h2⟩
  | .nilIface, _, r => by simpa [VR] using r
  | .agg cs, _, r => by
    simp only [VR] at r ⊢
    obtain ⟨u', h1, h2⟩ := r
    exact ⟨u', h1, VRs.mono h h2⟩
  | .tup cs, _, r => by
    simp only [VR] at r ⊢
    obtain ⟨u', h1, h2⟩ := r
    exact ⟨u', h1, VRs.mono h h2⟩
theorem VRs.mono {p q : Phi} (h : p.le q) : ∀ {a : List AV} {v : List Value}, VRs p a v → VRs q a v
  | [], _, r => by simpa [VRs] using r
  | a :: as, _, r => by
    simp only [VRs] at r ⊢
    obtain ⟨v, vs, h1, h2, h3⟩ := r
    exact ⟨v, vs, h1, VR.mono h h2, VRs.mono h h3⟩
end

section lists
variable {p : Phi}
theorem VRs.length : ∀ {as : List AV} {vs : List Value}, VRs p as vs → vs.length = as.length
  | [], _, h => by simp only [VRs] at h; simp [h]
  | a :: as, _, h => by
    simp only [VRs] at h
    obtain ⟨v, vs, rfl, _, h⟩ := h
    simp [VRs.length h]
theorem VRs.get : ∀ {as : List AV} {vs : List Value}, VRs p as vs → ∀ {i : Nat} {a : AV}, as[i]? = some a → ∃ v, vs[i]? = some v ∧ VR p a v
  | [], _, _, i, a, e => by simp at e
  | a :: as, _, h, i, x, e => by
    simp only [VRs] at h
    obtain ⟨v, vs, rfl, h1, h2⟩ := h
    cases i with
    | zero => simp at e; subst e; exact ⟨v, by simp, h1⟩
    | succ i => simp only [List.getElem?_cons_succ] at e ⊢; exact VRs.get h2 e
theorem VRs.of_get : ∀ {as : List AV} {vs : List Value}, vs.length = as.length → (∀ (i : Nat) a, as[i]? = some a → ∃ v, vs[i]? = some v ∧ VR p a v) → VRs p as vs
  | [], vs, h, _ => by simp only [VRs]; simpa using h
  | a :: as, [], h, _ => by simp at h
  | a :: as, v :: vs, h, hg => by
    simp only [VRs]
    refine ⟨v, vs, rfl, ?_, VRs.of_get (by simpa using h) fun i x e => ?_⟩
    · obtain ⟨v', e, r⟩ := hg 0 a (by simp)
      simp at e; subst e; exact r
    · obtain ⟨v', e', r⟩ := hg (i + 1) x (by simpa using e)
      exact ⟨v', by simpa using e', r⟩
theorem VRs.append {as bs : List AV} {vs us : List Value} (h : VRs p as vs) (h' : VRs p bs us) : VRs p (as ++ bs) (vs ++ us) := by
  induction as generalizing vs with
  | nil => simp only [VRs] at h; subst h; simpa using h'
  | cons a as ih =>
    simp only [VRs] at h
    obtain ⟨v, vs, rfl, h1, h2⟩ := h
    simp only [List.cons_append, VRs]
    exact ⟨v, vs ++ us, rfl, h1, ih h2⟩
theorem VRs.take {as : List AV} {vs : List Value} (h : VRs p as vs) (n : Nat) : VRs p (as.take n) (vs.take n) := by
  induction as generalizing vs n with
  | nil => simp only [VRs] at h; subst h; simp [VRs]
  | cons a as ih =>
    simp only [VRs] at h
    obtain ⟨v, vs, rfl, h1, h2⟩ := h
    cases n with
    | zero => simp [VRs]
    | succ n => simp only [List.take_succ_cons, VRs]; exact ⟨v, _, rfl, h1, ih h2 n⟩
theorem VRs.drop {as : List AV} {vs : List Value} (h : VRs p as vs) (n : Nat) : VRs p (as.drop n) (vs.drop n) := by
  induction as generalizing vs n with
  | nil => simp only [VRs] at h; subst h; simp [VRs]
  | cons a as ih =>
    simp only [VRs] at h
    obtain ⟨v, vs, rfl, h1, h2⟩ := h
    cases n with
    | zero => simp only [List.drop_zero, VRs]; exact ⟨v, vs, rfl, h1, h2⟩
    | succ n => simp only [List.drop_succ_cons]; exact ih h2 n
theorem VRs.set {as : List AV} {vs : List Value} (h : VRs p as vs) (i : Nat) {a : AV} {v : Value} (hv : VR p a v) : VRs p (as.set i a) (vs.set i v) := by
  induction as generalizing vs i with
  | nil => simp only [VRs] at h; subst h; simp [VRs]
  | cons b as ih =>
    simp only [VRs] at h
    obtain ⟨u, vs, rfl, h1, h2⟩ := h
    cases i with
    | zero => simp only [List.set_cons_zero, VRs]; exact ⟨v, vs, rfl, hv, h2⟩
    | succ i => simp only [List.set_cons_succ, VRs]; exact ⟨u, _, rfl, h1, ih h2 i⟩
theorem VRs.replicate (n : Nat) {a : AV} {v : Value} (h : VR p a v) : VRs p (List.replicate n a) (List.replicate n v) := by
  induction n with
  | zero => simp [VRs]
  | succ n ih => simp only [List.replicate_succ, VRs]; exact ⟨v, _, rfl, h, ih⟩
theorem VRs.flat {as : List AV} {vs : List Value} (h : VRs p as vs) (n : Nat) : VRs p (List.replicate n as).flatten (List.replicate n vs).flatten := by
  induction n with
  | zero => simp [VRs]
  | succ n ih => simp only [List.replicate_succ, List.flatten_cons]; exact h.append ih
theorem VR.undef' (v : Value) : VR p .undef v := by simp [VR]
theorem VR.one {a : AV} {v : Value} (h : VR p a v) (h1 : a.one = true) : v.oneCell' = true ∧ v.cells = #[v] := by
  cases a with
  | undef | agg _ | tup _ => simp [AV.one] at h1
  | ptr x => cases x <;> simp only [VR] at h <;> (first | subst h; exact ⟨rfl, rfl⟩ | (obtain ⟨_, _, rfl⟩ := h; exact ⟨rfl, rfl⟩))
  | map x => cases x <;> simp only [VR] at h <;> (first | subst h; exact ⟨rfl, rfl⟩ | (obtain ⟨_, _, rfl⟩ := h; exact ⟨rfl, rfl⟩))
  | sl x sz l c e =>
    cases x with
    | none => simp only [VR] at h; obtain ⟨_, _, rfl⟩ := h; exact ⟨rfl, rfl⟩
    | some x => simp only [VR, SR] at h; obtain ⟨_, _, _, _, rfl, _⟩ := h; exact ⟨rfl, rfl⟩
  | fn f x y => simp only [VR] at h; obtain ⟨_, _, rfl, _⟩ := h; exact ⟨rfl, rfl⟩
  | yld b => simp only [VR] at h; obtain ⟨_, _, rfl⟩ := h; exact ⟨rfl, rfl⟩
  | iface t u => simp only [VR] at h; obtain ⟨_, rfl, _⟩ := h; exact ⟨rfl, rfl⟩
  | bool _ | int _ _ | str _ | nilFn | nilIface => simp only [VR] at h; subst h; exact ⟨rfl, rfl⟩
theorem VRs.ones {as : List AV} {vs : List Value} (h : VRs p as vs) (h1 : as.all AV.one = true) : ∀ v ∈ vs, v.oneCell' = true := by
  induction as generalizing vs with
  | nil => simp only [VRs] at h; subst h; simp
  | cons a as ih =>
    simp only [VRs] at h
    obtain ⟨v, vs, rfl, h2, h3⟩ := h
    simp only [List.all_cons, Bool.and_eq_true] at h1
    intro u hu
    cases hu with
    | head => exact (h2.one h1.1).1
    | tail _ hu => exact ih h3 h1.2 u hu
/-- The cells of a value. -/
theorem VR.cells {a : AV} {v : Value} (h : VR p a v) {cs : List AV} (hc : a.cells = some cs) : ∃ vs, v.cells = ⟨vs⟩ ∧ VRs p cs vs ∧ cs.all AV.one = true := by
  cases a with
  | undef | tup _ => simp [AV.cells] at hc
  | agg xs =>
    simp only [AV.cells] at hc
    split at hc
    · rename_i h1
      cases hc
      simp only [VR] at h
      obtain ⟨vs, rfl, h2⟩ := h
      exact ⟨vs, rfl, h2, h1⟩
    · simp at hc
  | _ =>
    simp only [AV.cells, Option.some.injEq] at hc
    subst hc
    have h1 := h.one rfl
    exact ⟨[v], by rw [h1.2], by simp only [VRs]; exact ⟨v, [], rfl, h, rfl⟩, rfl⟩
end lists

/-- A constant is worth what it is. -/
theorem ofPart_VR (p : Phi) : ∀ {v : Value} {a : AV}, ofV.ofPart v = some a → VR p a v := by
  intro v a h
  cases v with
  | string s => simp only [ofV.ofPart, Option.some.injEq] at h; subst h; cases s; rename_i d; cases d; simp [VR]
  | pointer x => cases x <;> simp only [ofV.ofPart] at h <;> cases h; simp [VR]
  | slice x l c =>
    cases x with
    | some _ => simp [ofV.ofPart] at h
    | none => cases l <;> cases c <;> simp only [ofV.ofPart] at h <;> cases h; simp [VR]
  | map x => cases x <;> simp only [ofV.ofPart] at h <;> cases h; simp [VR]
  | _ => simp only [ofV.ofPart] at h <;> cases h <;> simp [VR]
theorem ofParts_VRs (p : Phi) : ∀ {vs : List Value} {as : List AV}, ofV.ofParts vs = some as → VRs p as vs
  | [], as, h => by simp only [ofV.ofParts, Option.some.injEq] at h; subst h; simp [VRs]
  | v :: vs, as, h => by
    simp only [ofV.ofParts] at h
    split at h
    · rename_i a as' h1 h2
      cases h
      simp only [VRs]
      exact ⟨v, vs, rfl, ofPart_VR p h1, ofParts_VRs p h2⟩
    · simp at h
theorem ofV_VR (p : Phi) {v : Value} {a : AV} (h : ofV v = some a) : VR p a v := by
  cases v with
  | string s => simp only [ofV, Option.some.injEq] at h; subst h; cases s; rename_i d; cases d; simp [VR]
  | pointer x => cases x <;> simp only [ofV] at h <;> cases h; simp [VR]
  | slice x l c =>
    cases x with
    | some _ => simp [ofV] at h
    | none => cases l <;> cases c <;> simp only [ofV] at h <;> cases h; simp [VR]
  | map x => cases x <;> simp only [ofV] at h <;> cases h; simp [VR]
  | func f x y =>
    cases x; rename_i x; cases y; rename_i y
    cases x <;> cases y <;> simp only [ofV] at h <;> cases h
    simp [VR, VRs]
  | agg cs =>
    cases cs; rename_i cs
    simp only [ofV, Option.map_eq_some_iff] at h
    obtain ⟨as, h1, rfl⟩ := h
    simp only [VR]
    exact ⟨cs, rfl, ofParts_VRs p h1⟩
  | _ => simp only [ofV] at h <;> cases h <;> simp [VR]

/-! The looks at a code: at its regions that draw their order. -/
def edgesOf (o : Oper) : List Nat := o.after.toList.filterMap fun e => if Region.binds .any e then some e.on else none

def pairOk (P : Program) (all : List Oper) (anc chk : List (List Nat)) (i j : Nat) (oi oj : Oper) : Bool :=
  (anc.getD j []).contains i ||
  (Oper.apart ⟨all⟩ oi oj && !(decide (cls P oi.op = .e) && decide (cls P oj.op = .e)) &&
    (!((decide (cls P oi.op = .r) && decide (cls P oj.op = .e)) || (decide (cls P oi.op = .e) && decide (cls P oj.op = .r))) || (chk.getD j []).contains i))

def ancRow (anc : List (List Nat)) (j : Nat) (o : Oper) : Bool :=
  (edgesOf o).all (fun e => decide (e < j)) &&
  (anc.getD j []).all (fun x => (edgesOf o).contains x || (edgesOf o).any fun e => (anc.getD e []).contains x) &&
  (match o.guard with | none => true | some (g, _) => (edgesOf o).contains g)

def rowOk (P : Program) (all : List Oper) (anc chk : List (List Nat)) (j : Nat) : Bool :=
  match all[j]? with
  | some oj => ancRow anc j oj && (List.range j).all fun i => match all[i]? with
    | some oi => pairOk P all anc chk i j oi oj
    | none => true
  | none => true

/-- What is asked of a region that draws its order. -/
def rOk (P : Program) (all : List Oper) (anc chk : List (List Nat)) : Bool := (List.range all.length).all (rowOk P all anc chk)

def AC.ok (P : Program) : AC → Bool
  | .region _ ops draw chk anc => !draw || (rOk P ops anc chk && decide (chk.length = ops.length))
  | .seq a b => a.ok P && b.ok P
  | .cond _ x y => x.ok P && y.ok P
  | .block _ b => b.ok P
  | .loop b => b.ok P
  | .rangeFunc _ _ a b => a.ok P && b.ok P
  | .scope b => b.ok P
  | .pt _ c => c.ok P
  | _ => true

/-- Entries of a map, one by one. -/
def ER (p : Phi) : List (AV × AV) → List MapEntry → Prop
  | [], es => es = []
  | (k, v) :: l, es => ∃ e es', es = e :: es' ∧ VR p k e.key ∧ VR p v e.val ∧ ER p l es'
theorem ER.mono {p q : Phi} (h : p.le q) : ∀ {l : List (AV × AV)} {es : List MapEntry}, ER p l es → ER q l es
  | [], _, r => by simpa [ER] using r
  | (k, v) :: l, _, r => by
    simp only [ER] at r ⊢
    obtain ⟨e, es, h1, h2, h3, h4⟩ := r
    exact ⟨e, es, h1, h2.mono h, h3.mono h, ER.mono h h4⟩

/-- A block and what lies there. -/
def BR (P : Program) (p : Phi) (ci : CI) : Blk → Obj → Prop
  | .cells cs ro, o => ∃ arr el fr, o = .cells arr el fr ∧ arr.size = ci.n ∧ (ro = false → ∀ i, ¬ (fr.1 ≤ i ∧ i < fr.2)) ∧ ∀ (i : Nat) a, cs[i]? = some a → ∃ v, arr[ci.d + i]? = some v ∧ VR p a v
  | .loop l, o => ∃ fn vs d, o = .loop ⟨l.state, l.pending.map fun j => j.code.erase, fn, ⟨vs⟩, ⟨l.params⟩, l.assign.erase, l.body.erase, d⟩ ∧ VRs p l.tmps vs ∧ l.assign.ok P = true ∧ l.body.ok P = true
  | .map es, o => ∃ ces clock, o = .map ces clock ∧ (∃ l, l.Perm es ∧ ER p l ces.toList) ∧ (ces.toList.map (·.born)).Nodup ∧ ∀ e ∈ ces.toList, e.born < clock
theorem BR.mono {P : Program} {p q : Phi} (h : p.le q) {ci : CI} : ∀ {b : Blk} {o : Obj}, BR P p ci b o → BR P q ci b o
  | .cells _cs _ro, _o, ⟨arr, el, fr, h1, h2, h3, h4⟩ => ⟨arr, el, fr, h1, h2, h3, fun i a hi => let ⟨v, x, y⟩ := h4 i a hi; ⟨v, x, y.mono h⟩⟩
  | .loop _l, _o, ⟨fn, vs, d, h1, h2, h3⟩ => ⟨fn, vs, d, h1, h2.mono h, h3⟩
  | .map _es, _o, ⟨ces, clock, h1, ⟨l, h2, h3⟩, h4⟩ => ⟨ces, clock, h1, ⟨l, h2, h3.mono h⟩, h4⟩

/-- Memories that are alike. The package's variables lie as they are named. -/
structure MR (P : Program) (p : Phi) (m : Mem) (w : World) : Prop where
  has : ∀ b v ci, m.get b = some v → p b = some ci → ∃ o, w.heap[ci.c]? = some o ∧ BR P p ci v o
  inj : ∀ b ci b2 ci2, (m.get b).isSome = true → p b = some ci → p b2 = some ci2 → ci.c = ci2.c → b = b2 ∨ (b2 < m.next ∧ m.get b2 = none)
  bnd : ∀ b ci, p b = some ci → ci.c < w.heap.size
  glob : ∀ g, g < P.globals.size → ∃ n, p g = some ⟨g, 0, n⟩
theorem MR.live {P : Program} {p : Phi} {m : Mem} {w : World} (h : MR P p m w) (b : Nat) (cs : List AV) (ro : Bool) (ci : CI) (hb : m.get b = some (.cells cs ro)) (hp : p b = some ci) :
    ∃ arr el fr, w.heap[ci.c]? = some (.cells arr el fr) ∧ arr.size = ci.n ∧ (ro = false → ∀ i, ¬ (fr.1 ≤ i ∧ i < fr.2)) ∧ ∀ (i : Nat) a, cs[i]? = some a → ∃ v, arr[ci.d + i]? = some v ∧ VR p a v := by
  obtain ⟨o, h1, arr, el, fr, rfl, h2⟩ := h.has b _ ci hb hp
  exact ⟨arr, el, fr, h1, h2⟩

/-- What has become of a memory. -/
structure Sim (P : Program) (p : Phi) (m : Mem) (w : World) (p' : Phi) (m' : Mem) (w' : World) : Prop where
  le : p.le p'
  out : ∀ b, ¬ (m.next ≤ b ∧ b < m'.next) → p' b = p b
  next : m.next ≤ m'.next
  rel : MR P p' m' w'
  keepA : ∀ b, b < m.next → p b = none → m'.get b = m.get b
  dead : ∀ b, b < m.next → m.get b = none → m'.get b = none
  keepC : ∀ c, c < w.heap.size → (∀ b ci, (m.get b).isSome = true → p b = some ci → ci.c ≠ c) → w'.heap[c]? = w.heap[c]?
  fresh : ∀ b ci, m.next ≤ b → b < m'.next → p' b = some ci → w.heap.size ≤ ci.c ∨ ∃ b0 ci0, (m.get b0).isSome = true ∧ p b0 = some ci0 ∧ ci0.c = ci.c
  ro : ∀ b cs ci, m.get b = some (.cells cs true) → p b = some ci → m'.get b = some (.cells cs true) ∧ w'.heap[ci.c]? = w.heap[ci.c]?
  size : w.heap.size ≤ w'.heap.size
  os : w'.os = w.os
  output : w'.output = w.output
  tape : w'.tape = w.tape

/-- No number of the new blocks is taken. -/
def Free (p : Phi) (lo hi : Nat) : Prop := ∀ b, lo ≤ b → b < hi → p b = none

theorem Sim.refl {P : Program} {p : Phi} {m : Mem} {w : World} (h : MR P p m w) : Sim P p m w p m w where
  le := fun _ _ h => h
  out := fun _ _ => rfl
  next := Nat.le_refl _
  rel := h
  keepA := fun _ _ _ => rfl
  dead := fun _ _ h => h
  keepC := fun _ _ _ => rfl
  fresh := fun b ci h1 h2 => by omega
  ro := fun _ _ _ h _ => ⟨h, rfl⟩
  size := Nat.le_refl _
  os := rfl
  output := rfl
  tape := rfl

theorem Sim.trans {P : Program} {p p1 p2 : Phi} {m m1 m2 : Mem} {w w1 w2 : World} (a : Sim P p m w p1 m1 w1) (b : Sim P p1 m1 w1 p2 m2 w2) (_hf : Free p m.next m2.next) :
    Sim P p m w p2 m2 w2 where
  le := fun x ci h => b.le x ci (a.le x ci h)
  out := fun x h => by
    rw [b.out x (by have := a.next; omega), a.out x (by have := b.next; omega)]
  next := Nat.le_trans a.next b.next
  rel := b.rel
  keepA := fun x h1 h2 => by
    have e : p1 x = p x := a.out x (by omega)
    rw [b.keepA x (by have := a.next; omega) (by rw [e, h2]), a.keepA x h1 h2]
  dead := fun x h1 h2 => b.dead x (by have := a.next; omega) (a.dead x h1 h2)
  keepC := fun c h1 h2 => by
    rw [b.keepC c (by have := a.size; omega) ?_, a.keepC c h1 h2]
    intro x ci h3 h4 e
    by_cases hx : x < m.next
    · have e1 : p1 x = p x := a.out x (by omega)
      refine h2 x ci ?_ (e1 ▸ h4) e
      cases hm : m.get x with
      | some _ => rfl
      | none => rw [a.dead x hx hm] at h3; simp at h3
    · by_cases hx1 : x < m1.next
      · rcases a.fresh x ci (by omega) hx1 h4 with h | ⟨b0, ci0, h5, h6, h7⟩
        · omega
        · exact h2 b0 ci0 h5 h6 (h7.trans e)
      · rw [Mem.get_ge (by omega)] at h3; simp at h3
  fresh := fun x ci h1 h2 h3 => by
    by_cases hx1 : x < m1.next
    · have e1 : p2 x = p1 x := b.out x (by omega)
      exact a.fresh x ci h1 hx1 (e1 ▸ h3)
    · rcases b.fresh x ci (by omega) h2 h3 with h | ⟨b0, ci0, h5, h6, h7⟩
      · left; have := a.size; omega
      · by_cases hx : b0 < m.next
        · have e1 : p1 b0 = p b0 := a.out b0 (by omega)
          right
          refine ⟨b0, ci0, ?_, e1 ▸ h6, h7⟩
          cases hm : m.get b0 with
          | some _ => rfl
          | none => rw [a.dead b0 hx hm] at h5; simp at h5
        · by_cases hb1 : b0 < m1.next
          · rcases a.fresh b0 ci0 (by omega) hb1 h6 with h | ⟨b9, ci9, h8, h9, h10⟩
            · left; omega
            · right; exact ⟨b9, ci9, h8, h9, h10.trans h7⟩
          · rw [Mem.get_ge (by omega)] at h5; simp at h5
  ro := fun x cs ci h1 h2 => by
    obtain ⟨h3, h4⟩ := a.ro x cs ci h1 h2
    obtain ⟨h5, h6⟩ := b.ro x cs ci h3 (a.le x ci h2)
    exact ⟨h5, h6.trans h4⟩
  size := Nat.le_trans a.size b.size
  os := b.os.trans a.os
  output := b.output.trans a.output
  tape := b.tape.trans a.tape

/-- Free numbers stay free. -/
theorem Free.step {P : Program} {p p1 : Phi} {m m1 : Mem} {w w1 : World} (a : Sim P p m w p1 m1 w1) {hi : Nat} (hf : Free p m.next hi) : Free p1 m1.next hi := by
  intro b h1 h2
  rw [a.out b (by omega)]
  exact hf b (by have := a.next; omega) h2
theorem Free.sub {p : Phi} {lo hi lo' hi' : Nat} (hf : Free p lo hi) (h1 : lo ≤ lo') (h2 : hi' ≤ hi) : Free p lo' hi' := fun b a c => hf b (by omega) (by omega)

/-- The world but for its count of draws. -/
theorem MR.of_heap {P : Program} {p : Phi} {m : Mem} {w w' : World} (h : MR P p m w) (e : w'.heap = w.heap) : MR P p m w' where
  has := fun b v ci h1 h2 => by rw [e]; exact h.has b v ci h1 h2
  inj := h.inj
  bnd := fun b ci h1 => by rw [e]; exact h.bnd b ci h1
  glob := h.glob
theorem Sim.of_heap {P : Program} {p : Phi} {m : Mem} {w w' : World} (h : MR P p m w) (e : w'.heap = w.heap) (e1 : w'.os = w.os) (e2 : w'.output = w.output) (e3 : w'.tape = w.tape) : Sim P p m w p m w' where
  le := fun _ _ h => h
  out := fun _ _ => rfl
  next := Nat.le_refl _
  rel := h.of_heap e
  keepA := fun _ _ _ => rfl
  dead := fun _ _ h => h
  keepC := fun c _ _ => by rw [e]
  fresh := fun b ci h1 h2 => by omega
  ro := fun _ _ _ h _ => ⟨h, by rw [e]⟩
  size := by rw [e]; exact Nat.le_refl _
  os := e1
  output := e2
  tape := e3

/-- A new block, laid behind what there was. -/
theorem Sim.lay {P : Program} {p : Phi} {m : Mem} {w w' : World} (h : MR P p m w) (hfree : p m.next = none) {v : Blk} {o : Obj} {c n : Nat} (hc : w.heap.size ≤ c) (hco : w'.heap[c]? = some o) (hk : ∀ i, i < w.heap.size → w'.heap[i]? = w.heap[i]?)
    (hsz : w.heap.size ≤ w'.heap.size) (e1 : w'.os = w.os) (e2 : w'.output = w.output) (e3 : w'.tape = w.tape) (hv : ∀ q : Phi, p.le q → BR P q ⟨c, 0, n⟩ v o) :
    Sim P p m w (fun b => if b = m.next then some ⟨c, 0, n⟩ else p b) (m.lay v) w' := by
  have hle : p.le (fun b => if b = m.next then some ⟨c, 0, n⟩ else p b) := by
    intro b ci hb
    by_cases e : b = m.next
    · subst e; rw [hfree] at hb; simp at hb
    · simp [e, hb]
  have hcs : c < w'.heap.size := (Array.getElem?_eq_some_iff.1 hco).1
  refine ⟨hle, ?_, by simp, ⟨?_, ?_, ?_, ?_⟩, ?_, ?_, ?_, ?_, fun b cs2 ci h1 h2 => ⟨by rw [Mem.get_lay, if_neg (by have := Mem.get_lt h1; omega)]; exact h1, hk _ (h.bnd b ci h2)⟩, hsz, e1, e2, e3⟩
  · intro b hb
    by_cases e : b = m.next
    · exact absurd ⟨by omega, by simp; omega⟩ hb
    · simp [e]
  · intro b v' ci h1 h2
    rw [Mem.get_lay] at h1
    by_cases e : b = m.next
    · subst e
      simp only [if_true] at h1 h2
      cases h1; cases h2
      exact ⟨o, hco, hv _ hle⟩
    · rw [if_neg e] at h1
      simp only [if_neg e] at h2
      obtain ⟨o', h3, h4⟩ := h.has b v' ci h1 h2
      exact ⟨o', by rw [hk _ (h.bnd b ci h2)]; exact h3, h4.mono hle⟩
  · intro b ci b2 ci2 h1 h2 h3 h4
    rw [Mem.get_lay] at h1
    by_cases e : b = m.next
    · subst e
      simp only [if_true] at h2
      cases h2
      by_cases e2 : b2 = m.next
      · exact .inl e2.symm
      · simp only [if_neg e2] at h3
        have := h.bnd b2 ci2 h3
        simp only at h4; omega
    · rw [if_neg e] at h1
      rw [if_neg e] at h2
      by_cases e2 : b2 = m.next
      · subst e2
        simp only [if_true] at h3
        cases h3
        have := h.bnd b ci h2
        simp only at h4; omega
      · simp only [if_neg e2] at h3
        rcases h.inj b ci b2 ci2 h1 h2 h3 h4 with h5 | ⟨h5, h6⟩
        · exact .inl h5
        · right; refine ⟨by simp; omega, ?_⟩; rw [Mem.get_lay, if_neg e2]; exact h6
  · intro b ci hb
    by_cases e : b = m.next
    · simp only [e, if_true] at hb; cases hb; exact hcs
    · simp only [if_neg e] at hb; have := h.bnd b ci hb; omega
  · intro g hg
    obtain ⟨n, hn⟩ := h.glob g hg
    exact ⟨n, hle _ _ hn⟩
  · intro b hb _
    rw [Mem.get_lay, if_neg (by omega)]
  · intro b hb hd
    rw [Mem.get_lay, if_neg (by omega)]; exact hd
  · intro c hc _
    exact hk c hc
  · intro b ci h1 h2 h3
    simp only [Mem.next_lay] at h2
    have e : b = m.next := by omega
    simp only [e, if_true] at h3
    cases h3
    exact .inl hc

/-- A new block of cells. -/
theorem Sim.alloc {P : Program} {p : Phi} {m : Mem} {w w' : World} (h : MR P p m w) (_hG : P.globals.size ≤ m.next) (hfree : p m.next = none) {cs : List AV} {arr : Array Value} {el : TypeId} {fr : Nat × Nat}
    (hw : w'.heap = w.heap.push (.cells arr el fr)) (e1 : w'.os = w.os) (e2 : w'.output = w.output) (e3 : w'.tape = w.tape)
    (hfr : ∀ i, ¬ (fr.1 ≤ i ∧ i < fr.2)) (hcs : ∀ (i : Nat) a, cs[i]? = some a → ∃ v, arr[i]? = some v ∧ VR p a v) :
    Sim P p m w (fun b => if b = m.next then some ⟨w.heap.size, 0, arr.size⟩ else p b) (m.alloc cs) w' :=
  Sim.lay h hfree (Nat.le_refl _) (by rw [hw]; simp) (fun i hi => by rw [hw, Array.getElem?_push_lt hi, ← Array.getElem?_eq_getElem]) (by rw [hw]; simp) e1 e2 e3
    fun q hq => ⟨arr, el, fr, rfl, rfl, fun _ => hfr, fun i a hi => let ⟨v, x, y⟩ := hcs i a hi; ⟨v, by simpa using x, y.mono hq⟩⟩

/-- A block turned, in place; or forgotten ('v' is none). -/
theorem Sim.turnV {P : Program} {p : Phi} {m : Mem} {w w' : World} (h : MR P p m w) {b : Nat} {v0 : Blk} {v : Option Blk} {ci : CI} (hb : m.get b = some v0) (hro : ∀ cs, v0 ≠ .cells cs true) (hp : p b = some ci) {o : Obj} (ho : w'.heap[ci.c]? = some o)
    (hk : ∀ c, c ≠ ci.c → w'.heap[c]? = w.heap[c]?) (hsz : w'.heap.size = w.heap.size) (e1 : w'.os = w.os) (e2 : w'.output = w.output) (e3 : w'.tape = w.tape) (hv : ∀ x, v = some x → BR P p ci x o) :
    Sim P p m w p (m.put b v) w' := by
  have hbl := Mem.get_lt hb
  have hne : ∀ b2 v2 ci2, b2 ≠ b → m.get b2 = some v2 → p b2 = some ci2 → ci2.c ≠ ci.c := by
    intro b2 v2 ci2 e h1 h2 ec
    rcases h.inj b2 ci2 b ci (by rw [h1]; rfl) h2 hp ec with e' | ⟨_, e'⟩
    · exact e e'
    · rw [hb] at e'; simp at e'
  have hg : ∀ b2, b2 ≠ b → (m.put b v).get b2 = m.get b2 := fun b2 e => by rw [Mem.get_put, if_neg (fun x => e x.1)]
  have hgb : (m.put b v).get b = v := by rw [Mem.get_put, if_pos ⟨rfl, hbl⟩]
  refine ⟨fun _ _ h => h, fun _ _ => rfl, by simp, ⟨?_, ?_, fun b2 ci2 h2 => by rw [hsz]; exact h.bnd b2 ci2 h2, h.glob⟩, ?_, ?_, ?_, ?_, ?_, by omega, e1, e2, e3⟩
  · intro b2 v2 ci2 h1 h2
    by_cases e : b2 = b
    · subst e
      rw [hgb] at h1
      rw [hp] at h2; cases h2
      exact ⟨o, ho, hv _ h1⟩
    · rw [hg b2 e] at h1
      obtain ⟨o', h3, h4⟩ := h.has b2 v2 ci2 h1 h2
      exact ⟨o', by rw [hk _ (hne b2 v2 ci2 e h1 h2)]; exact h3, h4⟩
  · intro b2 ci2 b3 ci3 h1 h2 h3 h4
    by_cases e : b2 = b
    · subst e
      rcases h.inj b2 ci2 b3 ci3 (by rw [hb]; rfl) h2 h3 h4 with e' | ⟨e1, e2⟩
      · exact .inl e'
      · by_cases e3 : b3 = b2
        · exact .inl e3.symm
        · right; exact ⟨by simpa using e1, by rw [hg b3 e3]; exact e2⟩
    · rw [hg b2 e] at h1
      rcases h.inj b2 ci2 b3 ci3 h1 h2 h3 h4 with e' | ⟨e1, e2⟩
      · exact .inl e'
      · by_cases e3 : b3 = b
        · subst e3; rw [hb] at e2; simp at e2
        · right; exact ⟨by simpa using e1, by rw [hg b3 e3]; exact e2⟩
  · intro b2 h1 h2
    refine hg b2 ?_
    rintro rfl; rw [hp] at h2; cases h2
  · intro b2 h1 h2
    by_cases e : b2 = b
    · subst e; rw [hb] at h2; cases h2
    · rw [hg b2 e]; exact h2
  · intro c h1 h2
    exact hk c fun e => h2 b ci (by rw [hb]; rfl) hp e.symm
  · intro b2 ci2 h1 h2 h3
    simp at h2; omega
  · intro b2 cs2 ci2 h1 h2
    have e : b2 ≠ b := by rintro rfl; rw [hb] at h1; cases h1; exact hro _ rfl
    exact ⟨by rw [hg b2 e]; exact h1, hk _ (hne b2 _ ci2 e h1 h2)⟩

end Go.Abs
