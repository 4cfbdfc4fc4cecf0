/- Texts of one claim, put together. -/
import Derived.Test.YtolmealocdgdhaaGreatK0
import Derived.Laws.Sem
import Derived.Orders
import Derived.Laws.Strings2
import Derived.Laws.Entries
section
namespace Go.Abs
open Go

structure CI where
  c : Nat
  d : Nat
  n : Nat
  g : Option (Array MapEntry × Nat)

abbrev Phi := Nat → Option CI

def Phi.le (p q : Phi) : Prop := ∀ b ci, p b = some ci → q b = some ci

def SR (p : Phi) (a : AA) (sz len cap : Nat) (ex : Bool) (v : Value) : Prop :=
  ∃ ci off cap', p a.b = some ci ∧ v = .slice (some ⟨ci.c, off, none⟩) len cap' ∧ len ≤ cap ∧ cap ≤ cap' ∧ (ex = true → cap' = cap) ∧
    (ex = false → off + cap' * sz ≤ ci.n) ∧ (0 < cap' → off = a.o + ci.d)

mutual
def VR (p : Phi) : AV → Value → Prop
  | .undef, _ => True
  | .bool b, v => v = .bool b
  | .int k n, v => v = .int k n
  | .str s, v => v = .string ⟨⟨s⟩⟩
  | .ptr none, v => v = .pointer none
  | .ptr (some a), v => ∃ ci, p a.b = some ci ∧ v = .pointer (some ⟨ci.c, a.o + ci.d, none⟩)
  | .sl none _ len cap ex, v => len = 0 ∧ cap = 0 ∧ ∃ a, v = .slice a 0 0 ∧ (ex = true → a = none)
  | .sl (some a) sz len cap ex, v => SR p a sz len cap ex v
  | .map none, v => v = .map none
  | .map (some r), v => ∃ ci, p r = some ci ∧ v = .map (some ci.c)
  | .fn f x y, v => ∃ x' y', v = .func f ⟨x'⟩ ⟨y'⟩ ∧ VRs p x x' ∧ VRs p y y'
  | .yld b, v => ∃ ci, p b = some ci ∧ v = .func (.yield ci.c) #[] #[]
  | .nilFn, v => v = .nilFunc
  | .iface t u, v => ∃ u', v = .iface t u' ∧ VR p u u'
  | .nilIface, v => v = .nilIface
  | .agg cs, v => ∃ cs', v = .agg ⟨cs'⟩ ∧ VRs p cs cs'
  | .tup vs, v => ∃ vs', v = .tuple ⟨vs'⟩ ∧ VRs p vs vs'
def VRs (p : Phi) : List AV → List Value → Prop
  | [], vs => vs = []
  | a :: as, vs => ∃ v vs', vs = v :: vs' ∧ VR p a v ∧ VRs p as vs'
end

mutual
theorem VR.mono {p q : Phi} (h : p.le q) : ∀ {a : AV} {v : Value}, VR p a v → VR q a v
  | .undef, _, _ => by simp [VR]
  | .bool _, _, r => by simpa [VR] using r
  | .int .., _, r => by simpa [VR] using r
  | .str _, _, r => by simpa [VR] using r
  | .ptr none, _, r => by simpa [VR] using r
  | .ptr (some a), _, r => by
    simp only [VR] at r ⊢
    obtain ⟨ci, h1, h2⟩ := r
    exact ⟨ci, h _ _ h1, h2⟩
  | .sl none .., _, r => by simpa [VR] using r
  | .sl (some a) .., _, r => by
    simp only [VR, SR] at r ⊢
    obtain ⟨ci, off, cap', h1, h2⟩ := r
    exact ⟨ci, off, cap', h _ _ h1, h2⟩
  | .map none, _, r => by simpa [VR] using r
  | .map (some a), _, r => by
    simp only [VR] at r ⊢
    obtain ⟨ci, h1, h2⟩ := r
    exact ⟨ci, h _ _ h1, h2⟩
  | .fn f x y, _, r => by
    simp only [VR] at r ⊢
    obtain ⟨x', y', h1, h2, h3⟩ := r
    exact ⟨x', y', h1, VRs.mono h h2, VRs.mono h h3⟩
  | .yld b, _, r => by
    simp only [VR] at r ⊢
    obtain ⟨ci, h1, h2⟩ := r
    exact ⟨ci, h _ _ h1, h2⟩
  | .nilFn, _, r => by simpa [VR] using r
  | .iface t u, _, r => by
    simp only [VR] at r ⊢
    obtain ⟨u', h1, h2⟩ := r
    exact ⟨u', h1, VR.mono h h2⟩
  | .nilIface, _, r => by simpa [VR] using r
  | .agg cs, _, r => by
    simp only [VR] at r ⊢
    obtain ⟨u', h1, h2⟩ := r
    exact ⟨u', h1, VRs.mono h h2⟩
  | .tup cs, _, r => by
    simp only [VR] at r ⊢
    obtain ⟨u', h1, h2⟩ := r
    exact ⟨u', h1, VRs.mono h h2⟩
theorem VRs.mono {p q : Phi} (h : p.le q) : ∀ {a : List AV} {v : List Value}, VRs p a v → VRs q a v
  | [], _, r => by simpa [VRs] using r
  | a :: as, _, r => by
    simp only [VRs] at r ⊢
    obtain ⟨v, vs, h1, h2, h3⟩ := r
    exact ⟨v, vs, h1, VR.mono h h2, VRs.mono h h3⟩
end

section lists
variable {p : Phi}
theorem VRs.length : ∀ {as : List AV} {vs : List Value}, VRs p as vs → vs.length = as.length
  | [], _, h => by simp only [VRs] at h; simp [h]
  | a :: as, _, h => by
    simp only [VRs] at h
    obtain ⟨v, vs, rfl, _, h⟩ := h
    simp [VRs.length h]
theorem VRs.get : ∀ {as : List AV} {vs : List Value}, VRs p as vs → ∀ {i : Nat} {a : AV}, as[i]? = some a → ∃ v, vs[i]? = some v ∧ VR p a v
  | [], _, _, i, a, e => by simp at e
  | a :: as, _, h, i, x, e => by
    simp only [VRs] at h
    obtain ⟨v, vs, rfl, h1, h2⟩ := h
    cases i with
    | zero => simp at e; subst e; exact ⟨v, by simp, h1⟩
    | succ i => simp only [List.getElem?_cons_succ] at e ⊢; exact VRs.get h2 e
theorem VRs.of_get : ∀ {as : List AV} {vs : List Value}, vs.length = as.length → (∀ (i : Nat) a, as[i]? = some a → ∃ v, vs[i]? = some v ∧ VR p a v) → VRs p as vs
  | [], vs, h, _ => by simp only [VRs]; simpa using h
  | a :: as, [], h, _ => by simp at h
  | a :: as, v :: vs, h, hg => by
    simp only [VRs]
    refine ⟨v, vs, rfl, ?_, VRs.of_get (by simpa using h) fun i x e => ?_⟩
    · obtain ⟨v', e, r⟩ := hg 0 a (by simp)
      simp at e; subst e; exact r
    · obtain ⟨v', e', r⟩ := hg (i + 1) x (by simpa using e)
      exact ⟨v', by simpa using e', r⟩
theorem VRs.append {as bs : List AV} {vs us : List Value} (h : VRs p as vs) (h' : VRs p bs us) : VRs p (as ++ bs) (vs ++ us) := by
  induction as generalizing vs with
  | nil => simp only [VRs] at h; subst h; simpa using h'
  | cons a as ih =>
    simp only [VRs] at h
    obtain ⟨v, vs, rfl, h1, h2⟩ := h
    simp only [List.cons_append, VRs]
    exact ⟨v, vs ++ us, rfl, h1, ih h2⟩
theorem VRs.take {as : List AV} {vs : List Value} (h : VRs p as vs) (n : Nat) : VRs p (as.take n) (vs.take n) := by
  induction as generalizing vs n with
  | nil => simp only [VRs] at h; subst h; simp [VRs]
  | cons a as ih =>
    simp only [VRs] at h
    obtain ⟨v, vs, rfl, h1, h2⟩ := h
    cases n with
    | zero => simp [VRs]
    | succ n => simp only [List.take_succ_cons, VRs]; exact ⟨v, _, rfl, h1, ih h2 n⟩
theorem VRs.drop {as : List AV} {vs : List Value} (h : VRs p as vs) (n : Nat) : VRs p (as.drop n) (vs.drop n) := by
  induction as generalizing vs n with
  | nil => simp only [VRs] at h; subst h; simp [VRs]
  | cons a as ih =>
    simp only [VRs] at h
    obtain ⟨v, vs, rfl, h1, h2⟩ := h
    cases n with
    | zero => simp only [List.drop_zero, VRs]; exact ⟨v, vs, rfl, h1, h2⟩
    | succ n => simp only [List.drop_succ_cons]; exact ih h2 n
theorem VRs.set {as : List AV} {vs : List Value} (h : VRs p as vs) (i : Nat) {a : AV} {v : Value} (hv : VR p a v) : VRs p (as.set i a) (vs.set i v) := by
  induction as generalizing vs i with
  | nil => simp only [VRs] at h; subst h; simp [VRs]
  | cons b as ih =>
    simp only [VRs] at h
    obtain ⟨u, vs, rfl, h1, h2⟩ := h
    cases i with
    | zero => simp only [List.set_cons_zero, VRs]; exact ⟨v, vs, rfl, hv, h2⟩
    | succ i => simp only [List.set_cons_succ, VRs]; exact ⟨u, _, rfl, h1, ih h2 i⟩
theorem VRs.replicate (n : Nat) {a : AV} {v : Value} (h : VR p a v) : VRs p (List.replicate n a) (List.replicate n v) := by
  induction n with
  | zero => simp [VRs]
  | succ n ih => simp only [List.replicate_succ, VRs]; exact ⟨v, _, rfl, h, ih⟩
theorem VRs.flat {as : List AV} {vs : List Value} (h : VRs p as vs) (n : Nat) : VRs p (List.replicate n as).flatten (List.replicate n vs).flatten := by
  induction n with
  | zero => simp [VRs]
  | succ n ih => simp only [List.replicate_succ, List.flatten_cons]; exact h.append ih
theorem VR.undef' (v : Value) : VR p .undef v := by simp [VR]
theorem VR.one {a : AV} {v : Value} (h : VR p a v) (h1 : a.one = true) : v.oneCell' = true ∧ v.cells = #[v] := by
  cases a with
  | undef | agg _ | tup _ => simp [AV.one] at h1
  | ptr x => cases x <;> simp only [VR] at h <;> (first | subst h; exact ⟨rfl, rfl⟩ | (obtain ⟨_, _, rfl⟩ := h; exact ⟨rfl, rfl⟩))
  | map x => cases x <;> simp only [VR] at h <;> (first | subst h; exact ⟨rfl, rfl⟩ | (obtain ⟨_, _, rfl⟩ := h; exact ⟨rfl, rfl⟩))
  | sl x sz l c e =>
    cases x with
    | none => simp only [VR] at h; obtain ⟨_, _, _, rfl, _⟩ := h; exact ⟨rfl, rfl⟩
    | some x => simp only [VR, SR] at h; obtain ⟨_, _, _, _, rfl, _⟩ := h; exact ⟨rfl, rfl⟩
  | fn f x y => simp only [VR] at h; obtain ⟨_, _, rfl, _⟩ := h; exact ⟨rfl, rfl⟩
  | yld b => simp only [VR] at h; obtain ⟨_, _, rfl⟩ := h; exact ⟨rfl, rfl⟩
  | iface t u => simp only [VR] at h; obtain ⟨_, rfl, _⟩ := h; exact ⟨rfl, rfl⟩
  | bool _ | int _ _ | str _ | nilFn | nilIface => simp only [VR] at h; subst h; exact ⟨rfl, rfl⟩
theorem VRs.ones {as : List AV} {vs : List Value} (h : VRs p as vs) (h1 : as.all AV.one = true) : ∀ v ∈ vs, v.oneCell' = true := by
  induction as generalizing vs with
  | nil => simp only [VRs] at h; subst h; simp
  | cons a as ih =>
    simp only [VRs] at h
    obtain ⟨v, vs, rfl, h2, h3⟩ := h
    simp only [List.all_cons, Bool.and_eq_true] at h1
    intro u hu
    cases hu with
    | head => exact (h2.one h1.1).1
    | tail _ hu => exact ih h3 h1.2 u hu
theorem VR.cells {a : AV} {v : Value} (h : VR p a v) {cs : List AV} (hc : a.cells = some cs) : ∃ vs, v.cells = ⟨vs⟩ ∧ VRs p cs vs ∧ cs.all AV.one = true := by
  cases a with
  | undef | tup _ => simp [AV.cells] at hc
  | agg xs =>
    simp only [AV.cells] at hc
    split at hc
    · rename_i h1
      cases hc
      simp only [VR] at h
      obtain ⟨vs, rfl, h2⟩ := h
      exact ⟨vs, rfl, h2, h1⟩
    · simp at hc
  | _ =>
    simp only [AV.cells, Option.some.injEq] at hc
    subst hc
    have h1 := h.one rfl
    exact ⟨[v], by rw [h1.2], by simp only [VRs]; exact ⟨v, [], rfl, h, rfl⟩, rfl⟩
end lists

theorem ofPart_VR (p : Phi) : ∀ {v : Value} {a : AV}, ofV.ofPart v = some a → VR p a v := by
  intro v a h
  cases v with
  | string s => simp only [ofV.ofPart, Option.some.injEq] at h; subst h; cases s; rename_i d; cases d; simp [VR]
  | pointer x => cases x <;> simp only [ofV.ofPart] at h <;> cases h; simp [VR]
  | slice x l c =>
    cases x with
    | some _ => simp [ofV.ofPart] at h
    | none => cases l <;> cases c <;> simp only [ofV.ofPart] at h <;> cases h; simp [VR]
  | map x => cases x <;> simp only [ofV.ofPart] at h <;> cases h; simp [VR]
  | _ => simp only [ofV.ofPart] at h <;> cases h <;> simp [VR]
theorem ofParts_VRs (p : Phi) : ∀ {vs : List Value} {as : List AV}, ofV.ofParts vs = some as → VRs p as vs
  | [], as, h => by simp only [ofV.ofParts, Option.some.injEq] at h; subst h; simp [VRs]
  | v :: vs, as, h => by
    simp only [ofV.ofParts] at h
    split at h
    · rename_i a as' h1 h2
      cases h
      simp only [VRs]
      exact ⟨v, vs, rfl, ofPart_VR p h1, ofParts_VRs p h2⟩
    · simp at h
theorem ofV_VR (p : Phi) {v : Value} {a : AV} (h : ofV v = some a) : VR p a v := by
  cases v with
  | string s => simp only [ofV, Option.some.injEq] at h; subst h; cases s; rename_i d; cases d; simp [VR]
  | pointer x => cases x <;> simp only [ofV] at h <;> cases h; simp [VR]
  | slice x l c =>
    cases x with
    | some _ => simp [ofV] at h
    | none => cases l <;> cases c <;> simp only [ofV] at h <;> cases h; simp [VR]
  | map x => cases x <;> simp only [ofV] at h <;> cases h; simp [VR]
  | func f x y =>
    cases x; rename_i x; cases y; rename_i y
    cases x <;> cases y <;> simp only [ofV] at h <;> cases h
    simp [VR, VRs]
  | agg cs =>
    cases cs; rename_i cs
    simp only [ofV, Option.map_eq_some_iff] at h
    obtain ⟨as, h1, rfl⟩ := h
    simp only [VR]
    exact ⟨cs, rfl, ofParts_VRs p h1⟩
  | _ => simp only [ofV] at h <;> cases h <;> simp [VR]

def edgesOf (o : Oper) : List Nat := o.after.toList.filterMap fun e => if Region.binds .any e then some e.on else none

def pairOk (P : Program) (all : List Oper) (anc chk : List (List Nat)) (i j : Nat) (oi oj : Oper) : Bool :=
  (anc.getD j []).contains i ||
  (Oper.apart ⟨all⟩ oi oj && !(decide (cls P oi.op = .e) && decide (cls P oj.op = .e)) &&
    (!((decide (cls P oi.op = .r) && decide (cls P oj.op = .e)) || (decide (cls P oi.op = .e) && decide (cls P oj.op = .r))) || (chk.getD j []).contains i))

def ancRow (anc : List (List Nat)) (j : Nat) (o : Oper) : Bool :=
  (edgesOf o).all (fun e => decide (e < j)) &&
  (anc.getD j []).all (fun x => (edgesOf o).contains x || (edgesOf o).any fun e => (anc.getD e []).contains x) &&
  (match o.guard with | none => true | some (g, _) => (edgesOf o).contains g)

def rowOk (P : Program) (all : List Oper) (anc chk : List (List Nat)) (j : Nat) : Bool :=
  match all[j]? with
  | some oj => ancRow anc j oj && (List.range j).all fun i => match all[i]? with
    | some oi => pairOk P all anc chk i j oi oj
    | none => true
  | none => true

def rOk (P : Program) (all : List Oper) (anc chk : List (List Nat)) : Bool := (List.range all.length).all (rowOk P all anc chk)

def AC.ok (P : Program) : AC → Bool
  | .region _ ops draw chk anc => !draw || (rOk P ops anc chk && decide (chk.length = ops.length))
  | .seq a b => a.ok P && b.ok P
  | .cond _ x y => x.ok P && y.ok P
  | .block _ b => b.ok P
  | .loop b => b.ok P
  | .rangeFunc _ _ a b => a.ok P && b.ok P
  | .scope b => b.ok P
  | .pt _ c => c.ok P
  | _ => true

def ER (p : Phi) : List (AV × AV) → List MapEntry → Prop
  | [], es => es = []
  | (k, v) :: l, es => ∃ e es', es = e :: es' ∧ VR p k e.key ∧ VR p v e.val ∧ ER p l es'
theorem ER.mono {p q : Phi} (h : p.le q) : ∀ {l : List (AV × AV)} {es : List MapEntry}, ER p l es → ER q l es
  | [], _, r => by simpa [ER] using r
  | (k, v) :: l, _, r => by
    simp only [ER] at r ⊢
    obtain ⟨e, es, h1, h2, h3, h4⟩ := r
    exact ⟨e, es, h1, h2.mono h, h3.mono h, ER.mono h h4⟩

def BR (P : Program) (p : Phi) (ci : CI) : Blk → Obj → Prop
  | .cells cs ro, o => ∃ arr el fr, o = .cells arr el fr ∧ arr.size = ci.n ∧ (ro = false → ∀ i, ¬ (fr.1 ≤ i ∧ i < fr.2)) ∧ ∀ (i : Nat) a, cs[i]? = some a → ∃ v, arr[ci.d + i]? = some v ∧ VR p a v
  | .loop l, o => ∃ fn vs d, o = .loop ⟨l.state, l.pending.map fun j => j.code.erase, fn, ⟨vs⟩, ⟨l.params⟩, l.assign.erase, l.body.erase, d⟩ ∧ VRs p l.tmps vs ∧ l.assign.ok P = true ∧ l.body.ok P = true
  | .map es, o => ∃ ces clock, o = .map ces clock ∧ (∃ l, l.Perm es ∧ ER p l ces.toList) ∧ (ces.toList.map (·.born)).Nodup ∧ ∀ e ∈ ces.toList, e.born < clock
  | .rmap es c, o => ∃ ces clock, o = .map ces clock ∧ (∃ l, l.Perm es ∧ ER p l ces.toList) ∧ ((ces.toList.map (·.born)).Nodup ∧ ∀ e ∈ ces.toList, e.born < clock) ∧ ∃ cc, p c = some cc ∧ cc.g = some (ces, clock)
  | .iter b left cur, o => ∃ bi ces clock seen last, o = .mapIter (some bi.c) clock seen last ∧ p b = some bi ∧ ci.g = some (ces, clock) ∧ ci.d = 0 ∧ clock ≤ last ∧ (∃ l, l.Perm left ∧ ER p l (ces.toList.filter fun e => !seen.contains e.born)) ∧
      ∀ e, cur = some e → last = clock ∧ ∃ ce ∈ ces.toList, seen.back? = some ce.born ∧ VR p e.1 ce.key ∧ VR p e.2 ce.val
theorem BR.mono {P : Program} {p q : Phi} (h : p.le q) {ci : CI} : ∀ {b : Blk} {o : Obj}, BR P p ci b o → BR P q ci b o
  | .cells _cs _ro, _o, ⟨arr, el, fr, h1, h2, h3, h4⟩ => ⟨arr, el, fr, h1, h2, h3, fun i a hi => let ⟨v, x, y⟩ := h4 i a hi; ⟨v, x, y.mono h⟩⟩
  | .loop _l, _o, ⟨fn, vs, d, h1, h2, h3⟩ => ⟨fn, vs, d, h1, h2.mono h, h3⟩
  | .map _es, _o, ⟨ces, clock, h1, ⟨l, h2, h3⟩, h4⟩ => ⟨ces, clock, h1, ⟨l, h2, h3.mono h⟩, h4⟩
  | .rmap _es _c, _o, ⟨ces, clock, h1, ⟨l, h2, h3⟩, h4, cc, h5, h6⟩ => ⟨ces, clock, h1, ⟨l, h2, h3.mono h⟩, h4, cc, h _ _ h5, h6⟩
  | .iter _b _l _c, _o, ⟨bi, ces, clock, seen, last, h1, h2, h3, h4, h5, ⟨l, h6, h7⟩, h8⟩ => ⟨bi, ces, clock, seen, last, h1, h _ _ h2, h3, h4, h5, ⟨l, h6, h7.mono h⟩, fun e he => let ⟨a, ce, b1, b2, b3, b4⟩ := h8 e he; ⟨a, ce, b1, b2, b3.mono h, b4.mono h⟩⟩

structure MR (P : Program) (p : Phi) (m : Mem) (w : World) : Prop where
  has : ∀ b v ci, m.get b = some v → p b = some ci → ∃ o, w.heap[ci.c]? = some o ∧ BR P p ci v o
  inj : ∀ b ci b2 ci2, (m.get b).isSome = true → p b = some ci → p b2 = some ci2 → ci.c = ci2.c → b = b2 ∨ (b2 < m.next ∧ m.get b2 = none)
  bnd : ∀ b ci, p b = some ci → ci.c < w.heap.size
  glob : ∀ g, g < P.globals.size → ∃ n, p g = some ⟨g, 0, n, none⟩
theorem MR.live {P : Program} {p : Phi} {m : Mem} {w : World} (h : MR P p m w) (b : Nat) (cs : List AV) (ro : Bool) (ci : CI) (hb : m.get b = some (.cells cs ro)) (hp : p b = some ci) :
    ∃ arr el fr, w.heap[ci.c]? = some (.cells arr el fr) ∧ arr.size = ci.n ∧ (ro = false → ∀ i, ¬ (fr.1 ≤ i ∧ i < fr.2)) ∧ ∀ (i : Nat) a, cs[i]? = some a → ∃ v, arr[ci.d + i]? = some v ∧ VR p a v := by
  obtain ⟨o, h1, arr, el, fr, rfl, h2⟩ := h.has b _ ci hb hp
  exact ⟨arr, el, fr, h1, h2⟩

structure Sim (P : Program) (p : Phi) (m : Mem) (w : World) (p' : Phi) (m' : Mem) (w' : World) : Prop where
  le : p.le p'
  out : ∀ b, ¬ (m.next ≤ b ∧ b < m'.next) → p' b = p b
  next : m.next ≤ m'.next
  rel : MR P p' m' w'
  keepA : ∀ b, b < m.next → p b = none → m'.get b = m.get b
  dead : ∀ b, b < m.next → m.get b = none → m'.get b = none
  keepC : ∀ c, c < w.heap.size → (∀ b ci, (m.get b).isSome = true → p b = some ci → ci.c ≠ c) → w'.heap[c]? = w.heap[c]?
  fresh : ∀ b ci, m.next ≤ b → b < m'.next → p' b = some ci → w.heap.size ≤ ci.c ∨ ∃ b0 ci0, (m.get b0).isSome = true ∧ p b0 = some ci0 ∧ ci0.c = ci.c
  ro : ∀ b cs ci, m.get b = some (.cells cs true) → p b = some ci → m'.get b = some (.cells cs true) ∧ w'.heap[ci.c]? = w.heap[ci.c]?
  size : w.heap.size ≤ w'.heap.size
  os : w'.os = w.os
  output : w'.output = w.output
  tape : w'.tape = w.tape

def Free (p : Phi) (lo hi : Nat) : Prop := ∀ b, lo ≤ b → b < hi → p b = none

theorem Sim.refl {P : Program} {p : Phi} {m : Mem} {w : World} (h : MR P p m w) : Sim P p m w p m w where
  le := fun _ _ h => h
  out := fun _ _ => rfl
  next := Nat.le_refl _
  rel := h
  keepA := fun _ _ _ => rfl
  dead := fun _ _ h => h
  keepC := fun _ _ _ => rfl
  fresh := fun b ci h1 h2 => by omega
  ro := fun _ _ _ h _ => ⟨h, rfl⟩
  size := Nat.le_refl _
  os := rfl
  output := rfl
  tape := rfl

theorem Sim.trans {P : Program} {p p1 p2 : Phi} {m m1 m2 : Mem} {w w1 w2 : World} (a : Sim P p m w p1 m1 w1) (b : Sim P p1 m1 w1 p2 m2 w2) (_hf : Free p m.next m2.next) :
    Sim P p m w p2 m2 w2 where
  le := fun x ci h => b.le x ci (a.le x ci h)
  out := fun x h => by
    rw [b.out x (by have := a.next; omega), a.out x (by have := b.next; omega)]
  next := Nat.le_trans a.next b.next
  rel := b.rel
  keepA := fun x h1 h2 => by
    have e : p1 x = p x := a.out x (by omega)
    rw [b.keepA x (by have := a.next; omega) (by rw [e, h2]), a.keepA x h1 h2]
  dead := fun x h1 h2 => b.dead x (by have := a.next; omega) (a.dead x h1 h2)
  keepC := fun c h1 h2 => by
    rw [b.keepC c (by have := a.size; omega) ?_, a.keepC c h1 h2]
    intro x ci h3 h4 e
    by_cases hx : x < m.next
    · have e1 : p1 x = p x := a.out x (by omega)
      refine h2 x ci ?_ (e1 ▸ h4) e
      cases hm : m.get x with
      | some _ => rfl
      | none => rw [a.dead x hx hm] at h3; simp at h3
    · by_cases hx1 : x < m1.next
      · rcases a.fresh x ci (by omega) hx1 h4 with h | ⟨b0, ci0, h5, h6, h7⟩
        · omega
        · exact h2 b0 ci0 h5 h6 (h7.trans e)
      · rw [Mem.get_ge (by omega)] at h3; simp at h3
  fresh := fun x ci h1 h2 h3 => by
    by_cases hx1 : x < m1.next
    · have e1 : p2 x = p1 x := b.out x (by omega)
      exact a.fresh x ci h1 hx1 (e1 ▸ h3)
    · rcases b.fresh x ci (by omega) h2 h3 with h | ⟨b0, ci0, h5, h6, h7⟩
      · left; have := a.size; omega
      · by_cases hx : b0 < m.next
        · have e1 : p1 b0 = p b0 := a.out b0 (by omega)
          right
          refine ⟨b0, ci0, ?_, e1 ▸ h6, h7⟩
          cases hm : m.get b0 with
          | some _ => rfl
          | none => rw [a.dead b0 hx hm] at h5; simp at h5
        · by_cases hb1 : b0 < m1.next
          · rcases a.fresh b0 ci0 (by omega) hb1 h6 with h | ⟨b9, ci9, h8, h9, h10⟩
            · left; omega
            · right; exact ⟨b9, ci9, h8, h9, h10.trans h7⟩
          · rw [Mem.get_ge (by omega)] at h5; simp at h5
  ro := fun x cs ci h1 h2 => by
    obtain ⟨h3, h4⟩ := a.ro x cs ci h1 h2
    obtain ⟨h5, h6⟩ := b.ro x cs ci h3 (a.le x ci h2)
    exact ⟨h5, h6.trans h4⟩
  size := Nat.le_trans a.size b.size
  os := b.os.trans a.os
  output := b.output.trans a.output
  tape := b.tape.trans a.tape

theorem Free.step {P : Program} {p p1 : Phi} {m m1 : Mem} {w w1 : World} (a : Sim P p m w p1 m1 w1) {hi : Nat} (hf : Free p m.next hi) : Free p1 m1.next hi := by
  intro b h1 h2
  rw [a.out b (by omega)]
  exact hf b (by have := a.next; omega) h2
theorem Free.sub {p : Phi} {lo hi lo' hi' : Nat} (hf : Free p lo hi) (h1 : lo ≤ lo') (h2 : hi' ≤ hi) : Free p lo' hi' := fun b a c => hf b (by omega) (by omega)

theorem MR.of_heap {P : Program} {p : Phi} {m : Mem} {w w' : World} (h : MR P p m w) (e : w'.heap = w.heap) : MR P p m w' where
  has := fun b v ci h1 h2 => by rw [e]; exact h.has b v ci h1 h2
  inj := h.inj
  bnd := fun b ci h1 => by rw [e]; exact h.bnd b ci h1
  glob := h.glob
theorem Sim.of_heap {P : Program} {p : Phi} {m : Mem} {w w' : World} (h : MR P p m w) (e : w'.heap = w.heap) (e1 : w'.os = w.os) (e2 : w'.output = w.output) (e3 : w'.tape = w.tape) : Sim P p m w p m w' where
  le := fun _ _ h => h
  out := fun _ _ => rfl
  next := Nat.le_refl _
  rel := h.of_heap e
  keepA := fun _ _ _ => rfl
  dead := fun _ _ h => h
  keepC := fun c _ _ => by rw [e]
  fresh := fun b ci h1 h2 => by omega
  ro := fun _ _ _ h _ => ⟨h, by rw [e]⟩
  size := by rw [e]; exact Nat.le_refl _
  os := e1
  output := e2
  tape := e3

theorem Sim.lay {P : Program} {p : Phi} {m : Mem} {w w' : World} (h : MR P p m w) (hfree : p m.next = none) {v : Blk} {o : Obj} {c n : Nat} {g : Option (Array MapEntry × Nat)} (hc : w.heap.size ≤ c) (hco : w'.heap[c]? = some o) (hk : ∀ i, i < w.heap.size → w'.heap[i]? = w.heap[i]?)
    (hsz : w.heap.size ≤ w'.heap.size) (e1 : w'.os = w.os) (e2 : w'.output = w.output) (e3 : w'.tape = w.tape) (hv : ∀ q : Phi, p.le q → BR P q ⟨c, 0, n, g⟩ v o) :
    Sim P p m w (fun b => if b = m.next then some ⟨c, 0, n, g⟩ else p b) (m.lay v) w' := by
  have hle : p.le (fun b => if b = m.next then some ⟨c, 0, n, g⟩ else p b) := by
    intro b ci hb
    by_cases e : b = m.next
    · subst e; rw [hfree] at hb; simp at hb
    · simp [e, hb]
  have hcs : c < w'.heap.size := (Array.getElem?_eq_some_iff.1 hco).1
  refine ⟨hle, ?_, by simp, ⟨?_, ?_, ?_, ?_⟩, ?_, ?_, ?_, ?_, fun b cs2 ci h1 h2 => ⟨by rw [Mem.get_lay, if_neg (by have := Mem.get_lt h1; omega)]; exact h1, hk _ (h.bnd b ci h2)⟩, hsz, e1, e2, e3⟩
  · intro b hb
    by_cases e : b = m.next
    · exact absurd ⟨by omega, by simp; omega⟩ hb
    · simp [e]
  · intro b v' ci h1 h2
    rw [Mem.get_lay] at h1
    by_cases e : b = m.next
    · subst e
      simp only [if_true] at h1 h2
      cases h1; cases h2
      exact ⟨o, hco, hv _ hle⟩
    · rw [if_neg e] at h1
      simp only [if_neg e] at h2
      obtain ⟨o', h3, h4⟩ := h.has b v' ci h1 h2
      exact ⟨o', by rw [hk _ (h.bnd b ci h2)]; exact h3, h4.mono hle⟩
  · intro b ci b2 ci2 h1 h2 h3 h4
    rw [Mem.get_lay] at h1
    by_cases e : b = m.next
    · subst e
      simp only [if_true] at h2
      cases h2
      by_cases e2 : b2 = m.next
      · exact .inl e2.symm
      · simp only [if_neg e2] at h3
        have := h.bnd b2 ci2 h3
        simp only at h4; omega
    · rw [if_neg e] at h1
      rw [if_neg e] at h2
      by_cases e2 : b2 = m.next
      · subst e2
        simp only [if_true] at h3
        cases h3
        have := h.bnd b ci h2
        simp only at h4; omega
      · simp only [if_neg e2] at h3
        rcases h.inj b ci b2 ci2 h1 h2 h3 h4 with h5 | ⟨h5, h6⟩
        · exact .inl h5
        · right; refine ⟨by simp; omega, ?_⟩; rw [Mem.get_lay, if_neg e2]; exact h6
  · intro b ci hb
    by_cases e : b = m.next
    · simp only [e, if_true] at hb; cases hb; exact hcs
    · simp only [if_neg e] at hb; have := h.bnd b ci hb; omega
  · intro g hg
    obtain ⟨n, hn⟩ := h.glob g hg
    exact ⟨n, hle _ _ hn⟩
  · intro b hb _
    rw [Mem.get_lay, if_neg (by omega)]
  · intro b hb hd
    rw [Mem.get_lay, if_neg (by omega)]; exact hd
  · intro c hc _
    exact hk c hc
  · intro b ci h1 h2 h3
    simp only [Mem.next_lay] at h2
    have e : b = m.next := by omega
    simp only [e, if_true] at h3
    cases h3
    exact .inl hc

theorem Sim.alloc {P : Program} {p : Phi} {m : Mem} {w w' : World} (h : MR P p m w) (_hG : P.globals.size ≤ m.next) (hfree : p m.next = none) {cs : List AV} {arr : Array Value} {el : TypeId} {fr : Nat × Nat}
    (hw : w'.heap = w.heap.push (.cells arr el fr)) (e1 : w'.os = w.os) (e2 : w'.output = w.output) (e3 : w'.tape = w.tape)
    (hfr : ∀ i, ¬ (fr.1 ≤ i ∧ i < fr.2)) (hcs : ∀ (i : Nat) a, cs[i]? = some a → ∃ v, arr[i]? = some v ∧ VR p a v) :
    Sim P p m w (fun b => if b = m.next then some ⟨w.heap.size, 0, arr.size, none⟩ else p b) (m.alloc cs) w' :=
  Sim.lay h hfree (Nat.le_refl _) (by rw [hw]; simp) (fun i hi => by rw [hw, Array.getElem?_push_lt hi, ← Array.getElem?_eq_getElem]) (by rw [hw]; simp) e1 e2 e3
    fun q hq => ⟨arr, el, fr, rfl, rfl, fun _ => hfr, fun i a hi => let ⟨v, x, y⟩ := hcs i a hi; ⟨v, by simpa using x, y.mono hq⟩⟩

theorem Sim.turnV {P : Program} {p : Phi} {m : Mem} {w w' : World} (h : MR P p m w) {b : Nat} {v0 : Blk} {v : Option Blk} {ci : CI} (hb : m.get b = some v0) (hro : ∀ cs, v0 ≠ .cells cs true) (hp : p b = some ci) {o : Obj} (ho : w'.heap[ci.c]? = some o)
    (hk : ∀ c, c ≠ ci.c → w'.heap[c]? = w.heap[c]?) (hsz : w'.heap.size = w.heap.size) (e1 : w'.os = w.os) (e2 : w'.output = w.output) (e3 : w'.tape = w.tape) (hv : ∀ x, v = some x → BR P p ci x o) :
    Sim P p m w p (m.put b v) w' := by
  have hbl := Mem.get_lt hb
  have hne : ∀ b2 v2 ci2, b2 ≠ b → m.get b2 = some v2 → p b2 = some ci2 → ci2.c ≠ ci.c := by
    intro b2 v2 ci2 e h1 h2 ec
    rcases h.inj b2 ci2 b ci (by rw [h1]; rfl) h2 hp ec with e' | ⟨_, e'⟩
    · exact e e'
    · rw [hb] at e'; simp at e'
  have hg : ∀ b2, b2 ≠ b → (m.put b v).get b2 = m.get b2 := fun b2 e => by rw [Mem.get_put, if_neg (fun x => e x.1)]
  have hgb : (m.put b v).get b = v := by rw [Mem.get_put, if_pos ⟨rfl, hbl⟩]
  refine ⟨fun _ _ h => h, fun _ _ => rfl, by simp, ⟨?_, ?_, fun b2 ci2 h2 => by rw [hsz]; exact h.bnd b2 ci2 h2, h.glob⟩, ?_, ?_, ?_, ?_, ?_, by omega, e1, e2, e3⟩
  · intro b2 v2 ci2 h1 h2
    by_cases e : b2 = b
    · subst e
      rw [hgb] at h1
      rw [hp] at h2; cases h2
      exact ⟨o, ho, hv _ h1⟩
    · rw [hg b2 e] at h1
      obtain ⟨o', h3, h4⟩ := h.has b2 v2 ci2 h1 h2
      exact ⟨o', by rw [hk _ (hne b2 v2 ci2 e h1 h2)]; exact h3, h4⟩
  · intro b2 ci2 b3 ci3 h1 h2 h3 h4
    by_cases e : b2 = b
    · subst e
      rcases h.inj b2 ci2 b3 ci3 (by rw [hb]; rfl) h2 h3 h4 with e' | ⟨e1, e2⟩
      · exact .inl e'
      · by_cases e3 : b3 = b2
        · exact .inl e3.symm
        · right; exact ⟨by simpa using e1, by rw [hg b3 e3]; exact e2⟩
    · rw [hg b2 e] at h1
      rcases h.inj b2 ci2 b3 ci3 h1 h2 h3 h4 with e' | ⟨e1, e2⟩
      · exact .inl e'
      · by_cases e3 : b3 = b
        · subst e3; rw [hb] at e2; simp at e2
        · right; exact ⟨by simpa using e1, by rw [hg b3 e3]; exact e2⟩
  · intro b2 h1 h2
    refine hg b2 ?_
    rintro rfl; rw [hp] at h2; cases h2
  · intro b2 h1 h2
    by_cases e : b2 = b
    · subst e; rw [hb] at h2; cases h2
    · rw [hg b2 e]; exact h2
  · intro c h1 h2
    exact hk c fun e => h2 b ci (by rw [hb]; rfl) hp e.symm
  · intro b2 ci2 h1 h2 h3
    simp at h2; omega
  · intro b2 cs2 ci2 h1 h2
    have e : b2 ≠ b := by rintro rfl; rw [hb] at h1; cases h1; exact hro _ rfl
    exact ⟨by rw [hg b2 e]; exact h1, hk _ (hne b2 _ ci2 e h1 h2)⟩

end Go.Abs
end
section
namespace Go.Abs
open Go

section
variable {P : Program} {p : Phi} {w : World}

def Gives (P : Program) (p : Phi) (s : Sem Value) (w : World) (v : AV) : Prop := ∃ cv, s.run P w = .ok cv w ∧ VR p v cv

theorem run_under {t : TypeId} {d : TypeDesc} (h : P.underlying t = some d) (w : World) : (underlying t).run P w = .ok d w := run_underlying h w
theorem run_info {t : TypeId} {i : TypeInfo} (h : P.info? t = some i) (w : World) : (typeInfo t).run P w = .ok i w := by simp [typeInfo, h]
theorem run_size {t : TypeId} {n : Nat} (h : szT P t = some n) (w : World) : (sizeOf t).run P w = .ok n w := by
  unfold szT at h
  cases hi : P.info? t with
  | none => simp [hi] at h
  | some i => rw [hi] at h; cases h; simp [sizeOf, run_info hi]
theorem run_isAgg {t : TypeId} {d : TypeDesc} (h : P.underlying t = some d) (w : World) : (isAgg t).run P w = .ok (isAggT P t) w := by
  simp only [isAgg, Sem.run_bind, run_under h, Result.andThen_ok, isAggT, h]
  cases d <;> rfl
theorem isAggT_under {t : TypeId} (h : isAggT P t = true) : ∃ d, P.underlying t = some d := by
  unfold isAggT at h
  cases hd : P.underlying t with
  | none => simp [hd] at h
  | some d => exact ⟨d, rfl⟩

theorem ev_VR {t : List AV} {a : Act} (ht : VRs p t a.tmps.toList) (hg : ∀ g, g < P.globals.size → ∃ n, p g = some ⟨g, 0, n, none⟩) {x : Operand} {v : AV} (h : ev P t x = some v) : VR p v (a.eval x) := by
  cases x with
  | tmp i =>
    simp only [ev, nth_eq, Option.some.injEq] at h
    subst h
    simp only [Act.eval]
    cases e : t[i]? with
    | none => rw [List.getD_eq_getElem?_getD, e]; simp [VR]
    | some b =>
      obtain ⟨v, h1, h2⟩ := ht.get e
      rw [List.getD_eq_getElem?_getD, e]
      have : a.tmps.getD i undef = v := by
        rw [Array.getD_eq_getD_getElem?, ← Array.getElem?_toList, h1]; rfl
      rw [this]; exact h2
  | const c => exact ofV_VR p h
  | global g =>
    simp only [ev] at h
    split at h
    · rename_i hlt
      cases h
      obtain ⟨n, hn⟩ := hg g hlt
      simp only [VR, Act.eval]
      exact ⟨_, hn, rfl⟩
    · simp at h
  | func f => simp only [ev, Option.some.injEq] at h; subst h; simp only [VR, Act.eval]; exact ⟨[], [], rfl, by simp [VRs], by simp [VRs]⟩

theorem evs_VRs {t : List AV} {a : Act} (ht : VRs p t a.tmps.toList) (hg : ∀ g, g < P.globals.size → ∃ n, p g = some ⟨g, 0, n, none⟩) : ∀ {xs : List Operand} {vs : List AV}, evs P t xs = some vs → VRs p vs (xs.map a.eval)
  | [], vs, h => by simp only [evs, Option.some.injEq] at h; subst h; simp [VRs]
  | x :: xs, vs, h => by
    simp only [evs] at h
    split at h
    · rename_i v vs' h1 h2
      cases h
      simp only [VRs, List.map_cons]
      exact ⟨_, _, rfl, ev_VR ht hg h1, evs_VRs ht hg h2⟩
    · simp at h

inductive PartsR (p : Phi) : List (Nat × AV) → List (Nat × Value) → Prop
  | nil : PartsR p [] []
  | cons {i : Nat} {a : AV} {v : Value} {as : List (Nat × AV)} {vs : List (Nat × Value)} (h : VR p a v) (t : PartsR p as vs) : PartsR p ((i, a) :: as) ((i, v) :: vs)

theorem evParts_VR {t : List AV} {a : Act} (ht : VRs p t a.tmps.toList) (hg : ∀ g, g < P.globals.size → ∃ n, p g = some ⟨g, 0, n, none⟩) : ∀ {xs : List (Nat × Operand)} {vs : List (Nat × AV)}, evParts P t xs = some vs →
    PartsR p vs (xs.map fun (i, x) => (i, a.eval x))
  | [], vs, h => by simp only [evParts, Option.some.injEq] at h; subst h; exact .nil
  | (i, x) :: xs, vs, h => by
    simp only [evParts] at h
    split at h
    · rename_i v vs' h1 h2
      cases h
      exact .cons (ev_VR ht hg h1) (evParts_VR ht hg h2)
    · simp at h

theorem bytesLess_eq : ∀ (x y : List UInt8), Op.bytesLess x y = strLess x y
  | _, [] => by cases ‹List UInt8› <;> rfl
  | [], _ :: _ => rfl
  | a :: x, b :: y => by
    simp only [Op.bytesLess, strLess, bytesLess_eq x y]
    congr 1
theorem str_toList (s : List UInt8) : (ByteArray.mk ⟨s⟩).toList = s := by rw [ByteArray.toList_eq]
theorem str_size (s : List UInt8) : (ByteArray.mk ⟨s⟩).size = s.length := rfl
theorem str_append (x y : List UInt8) : (ByteArray.mk ⟨x⟩ ++ ByteArray.mk ⟨y⟩ : ByteArray) = ⟨⟨x ++ y⟩⟩ := by
  apply ByteArray.ext
  rw [ByteArray.data_append]
  simp

theorem intA_sound {op : BinOp} {k : IntKind} {x y : Int} {v : AV} (h : intA op k x y = some v) :
    Gives P p (match op with | .add | .sub | .mul => Op.intArith op k x y | .quo | .rem => Op.intDiv op k x y | .and | .or | .xor | .andNot => Op.intBits op k x y | _ => Op.intCmp op x y) w v := by
  unfold Gives
  cases op <;> simp only [intA] at h
  case quo => split at h <;> cases h; rename_i hy; exact ⟨.int k (k.wrap (x.tdiv y)), by simp [Op.intDiv, hy], by simp [VR]⟩
  case rem => split at h <;> cases h; rename_i hy; exact ⟨.int k (x.tmod y), by simp [Op.intDiv, hy], by simp [VR]⟩
  all_goals (first | (cases h; done) | (cases h; exact ⟨_, rfl, by simp [VR]⟩))

theorem strA_sound {op : BinOp} {x y : List UInt8} {v : AV} (h : strA op x y = some v) : Gives P p (Op.stringOp op ⟨⟨x⟩⟩ ⟨⟨y⟩⟩) w v := by
  unfold Gives Op.stringOp
  simp only [str_toList, bytesLess_eq, str_size]
  cases op <;> simp only [strA] at h
  case add =>
    split at h
    · rename_i hle
      cases h
      refine ⟨.string (⟨⟨x⟩⟩ ++ ⟨⟨y⟩⟩), ?_, ?_⟩
      · simp only []
        rw [if_neg]
        · rfl
        · have : IntKind.i64.max = 9223372036854775807 := by decide
          rw [this]; omega
      · simp only [VR, str_append]
    · simp at h
  all_goals first
    | (cases h; done)
    | (cases h; exact ⟨_, rfl, by simp [VR]⟩)

theorem shA_sound {op : BinOp} (hop : op = .shl ∨ op = .shr) {k yk : IntKind} {x y : Int} {v : AV} (h : shA op k x y = some v) : Gives P p (Op.shift op k x yk y) w v := by
  unfold shA at h
  split at h
  · simp at h
  · rename_i hy
    unfold Gives Op.shift
    rw [if_neg hy]
    rcases hop with rfl | rfl <;> (simp only at h; cases h; exact ⟨_, rfl, by simp [VR]⟩)

theorem partA_sound {t : TypeId} {cs : List AV} {cs' : List Value} (hcs : VRs p cs cs') {off : Nat} {v : AV} (h : partA P t cs off = some v) :
    Gives P p (part t ⟨cs'⟩ off) w v := by
  unfold partA at h
  split at h
  · simp at h
  rename_i d hd
  unfold Gives part
  simp only [Sem.run_bind, run_isAgg hd, Result.andThen_ok]
  split at h
  · rename_i ha
    split at h
    · rename_i n hn
      split at h
      · rename_i hle
        cases h
        simp only [ha, if_true, Sem.run_bind, run_size hn, Result.andThen_ok]
        refine ⟨_, rfl, ?_⟩
        simp only [VR]
        refine ⟨(cs'.drop off).take n, ?_, (hcs.drop off).take n⟩
        congr 1
        apply Array.ext'
        simp [List.extract_eq_take_drop, Nat.add_sub_cancel_left]
      · simp at h
    · simp at h
  · rename_i ha
    simp only [ha]
    obtain ⟨v', h1, h2⟩ := hcs.get h
    have : (⟨cs'⟩ : Array Value)[off]? = some v' := by simpa using h1
    simp only [this, Bool.false_eq_true, if_false]
    exact ⟨v', rfl, h2⟩

def GivesB (P : Program) (s : Sem Bool) (w : World) (b : Bool) : Prop := s.run P w = .ok b w

def eqBody (n : Nat) (xs ys : Array Value) (f : Field) (_ : Option Bool × Unit) : Sem (ForInStep (Option Bool × Unit)) :=
  if f.name = "_" then pure (ForInStep.yield (none, ()))
  else do
    let a ← part f.type xs f.offset
    let b ← part f.type ys f.offset
    let r ← Op.equalIn n f.type a b
    if r = false then pure (ForInStep.done (some false, ())) else pure (ForInStep.yield (none, ()))
def eqElem (n : Nat) (elem : TypeId) (k : Nat) (xs ys : Array Value) (i : Nat) (_ : Option Bool × Unit) : Sem (ForInStep (Option Bool × Unit)) := do
    let a ← part elem xs (i * k)
    let b ← part elem ys (i * k)
    let r ← Op.equalIn n elem a b
    if r = false then pure (ForInStep.done (some false, ())) else pure (ForInStep.yield (none, ()))

theorem eqA_under {d : Nat} {t : TypeId} {a c : AV} {b : Bool} (h : eqA P d t a c = some b) : ∃ dd, P.underlying t = some dd := by
  cases e : P.underlying t with
  | some dd => exact ⟨dd, rfl⟩
  | none =>
    cases d with
    | zero => simp [eqA] at h
    | succ d => simp [eqA, e] at h

theorem eqFields_sound {n d : Nat}
    (ih : ∀ {t : TypeId} {x y : AV} {x' y' : Value} {b : Bool}, VR p x x' → VR p y y' → eqA P d t x y = some b → GivesB P (Op.equalIn n t x' y') w b)
    {xs ys : List AV} {xs' ys' : List Value} (hx : VRs p xs xs') (hy : VRs p ys ys') :
    ∀ {fs : List Field} {b : Bool}, eqFields P (eqA P d) fs xs ys = some b →
    ∃ r, (forIn fs (none, ()) (eqBody n ⟨xs'⟩ ⟨ys'⟩)).run P w = .ok r w ∧ r.1.getD true = b := by
  intro fs
  induction fs with
  | nil => intro b h; simp only [eqFields, Option.some.injEq] at h; subst h; exact ⟨(none, ()), rfl, rfl⟩
  | cons f fs ih2 =>
    intro b h
    simp only [eqFields] at h
    rw [List.forIn_cons]
    by_cases hn : f.name = "_"
    · rw [if_pos hn] at h
      obtain ⟨r, h1, h2⟩ := ih2 h
      refine ⟨r, ?_, h2⟩
      simp only [eqBody, hn, if_true, Sem.run_bind, Sem.run_pure, Result.andThen_ok]
      exact h1
    · rw [if_neg hn] at h
      split at h
      · rename_i a c ha hc
        split at h
        · rename_i he
          obtain ⟨a', ha1, ha2⟩ := partA_sound (w := w) hx ha
          obtain ⟨c', hc1, hc2⟩ := partA_sound (w := w) hy hc
          have h3 : (Op.equalIn n f.type a' c').run P w = .ok true w := ih ha2 hc2 he
          obtain ⟨r, h1, h2⟩ := ih2 h
          refine ⟨r, ?_, h2⟩
          simp only [eqBody, hn, if_false, Sem.run_bind, ha1, hc1, h3, Result.andThen_ok, Bool.true_eq_false, Sem.run_pure]
          exact h1
        · rename_i he
          cases h
          obtain ⟨a', ha1, ha2⟩ := partA_sound (w := w) hx ha
          obtain ⟨c', hc1, hc2⟩ := partA_sound (w := w) hy hc
          have h3 : (Op.equalIn n f.type a' c').run P w = .ok false w := ih ha2 hc2 he
          refine ⟨(some false, ()), ?_, rfl⟩
          simp only [eqBody, hn, if_false, Sem.run_bind, ha1, hc1, h3, Result.andThen_ok, if_true, Sem.run_pure]
        · simp at h
      · simp at h

theorem eqElems_sound {n d : Nat}
    (ih : ∀ {t : TypeId} {x y : AV} {x' y' : Value} {b : Bool}, VR p x x' → VR p y y' → eqA P d t x y = some b → GivesB P (Op.equalIn n t x' y') w b)
    {xs ys : List AV} {xs' ys' : List Value} (hx : VRs p xs xs') (hy : VRs p ys ys') {elem : TypeId} {k : Nat} :
    ∀ {len i : Nat} {b : Bool}, eqElems P (eqA P d) elem k xs ys len i = some b →
    ∃ r, (forIn (List.range' i len) (none, ()) (eqElem n elem k ⟨xs'⟩ ⟨ys'⟩)).run P w = .ok r w ∧ r.1.getD true = b := by
  intro len
  induction len with
  | zero => intro i b h; simp only [eqElems, Option.some.injEq] at h; subst h; exact ⟨(none, ()), rfl, rfl⟩
  | succ len ih2 =>
    intro i b h
    simp only [eqElems] at h
    rw [List.range'_succ, List.forIn_cons]
    split at h
    · rename_i a c ha hc
      split at h
      · rename_i he
        obtain ⟨a', ha1, ha2⟩ := partA_sound (w := w) hx ha
        obtain ⟨c', hc1, hc2⟩ := partA_sound (w := w) hy hc
        have h3 : (Op.equalIn n elem a' c').run P w = .ok true w := ih ha2 hc2 he
        obtain ⟨r, h1, h2⟩ := ih2 h
        refine ⟨r, ?_, h2⟩
        simp only [eqElem, Sem.run_bind, ha1, hc1, h3, Result.andThen_ok, Bool.true_eq_false, if_false, Sem.run_pure]
        exact h1
      · rename_i he
        cases h
        obtain ⟨a', ha1, ha2⟩ := partA_sound (w := w) hx ha
        obtain ⟨c', hc1, hc2⟩ := partA_sound (w := w) hy hc
        have h3 : (Op.equalIn n elem a' c').run P w = .ok false w := ih ha2 hc2 he
        refine ⟨(some false, ()), ?_, rfl⟩
        simp only [eqElem, Sem.run_bind, ha1, hc1, h3, Result.andThen_ok, if_true, Sem.run_pure]
      · simp at h
    · simp at h

theorem equalIn_struct {t : TypeId} {n : Nat} {fields : Array Field} (hd : P.underlying t = some (.struct fields)) (hs : P.stoodInHeld t = false) (xs ys : Array Value) :
   (Op.equalIn (n+1) t (.agg xs) (.agg ys)).run P w = ((forIn fields.toList (none, ()) (eqBody n xs ys)).run P w).andThen fun r w' => .ok (r.1.getD true) w' := by
  simp only [Op.equalIn, Sem.run_bind, run_under hd, Result.andThen_ok, run_program, hs]
  rw [Array.forIn_toList]
  unfold eqBody
  simp
  generalize Sem.run P _ w = x
  cases x with
  | ok a w => rcases a with ⟨_ | _, _⟩ <;> rfl
  | halt => rfl

theorem equalIn_array {t : TypeId} {n len elem k : Nat} (hd : P.underlying t = some (.array len elem)) (hk : szT P elem = some k) (xs ys : Array Value) :
   (Op.equalIn (n+1) t (.agg xs) (.agg ys)).run P w = ((forIn (List.range' 0 len) (none, ()) (eqElem n elem k xs ys)).run P w).andThen fun r w' => .ok (r.1.getD true) w' := by
  simp only [Op.equalIn, Sem.run_bind, run_under hd, Result.andThen_ok, run_size hk]
  rw [Std.Legacy.Range.forIn_eq_forIn_range']
  unfold eqElem
  simp [Std.Legacy.Range.size]
  generalize Sem.run P _ w = x
  cases x with
  | ok a w => rcases a with ⟨_ | _, _⟩ <;> rfl
  | halt => rfl

theorem eqA_sound : ∀ {d n : Nat} (_ : d ≤ n) {t : TypeId} {x y : AV} {x' y' : Value} {b : Bool}, VR p x x' → VR p y y' → eqA P d t x y = some b → GivesB P (Op.equalIn n t x' y') w b := by
  intro d
  induction d with
  | zero => intro n _ t x y x' y' b _ _ h; simp [eqA] at h
  | succ d ih =>
    intro n hn t x y x' y' b hx hy h
    obtain ⟨n, rfl⟩ : ∃ j, n = j + 1 := ⟨n - 1, by omega⟩
    obtain ⟨dd, hdd⟩ := eqA_under h
    unfold GivesB
    simp only [eqA, hdd] at h
    cases dd with
    | struct fields =>
      simp only at h
      split at h
      · simp at h
      · rename_i hs
        cases x <;> simp only [aggOf, Option.bind_none, Option.bind_some] at h <;> try (simp at h; done)
        cases y <;> simp only [Option.bind_none, Option.bind_some] at h <;> try (simp at h; done)
        simp only [VR] at hx hy
        obtain ⟨xs', rfl, hx⟩ := hx
        obtain ⟨ys', rfl, hy⟩ := hy
        rw [equalIn_struct hdd (by simpa using hs)]
        obtain ⟨r, h1, h2⟩ := eqFields_sound (n := n) (fun a b c => ih (by omega) a b c) hx hy h
        rw [h1]; simp [h2]
    | array len elem =>
      simp only at h
      cases x <;> simp only [aggOf, Option.bind_none, Option.bind_some] at h <;> try (simp at h; done)
      cases y <;> simp only [Option.bind_none, Option.bind_some] at h <;> try (simp at h; done)
      cases hk : szT P elem with
      | none => simp [hk] at h
      | some k =>
        rw [hk] at h
        simp only [VR] at hx hy
        obtain ⟨xs', rfl, hx⟩ := hx
        obtain ⟨ys', rfl, hy⟩ := hy
        rw [equalIn_array hdd hk]
        obtain ⟨r, h1, h2⟩ := eqElems_sound (n := n) (fun a b c => ih (by omega) a b c) hx hy h
        rw [h1]; simp [h2]
    | bool =>
      simp only [eqBool] at h
      split at h
      · simp only [VR] at hx hy; subst hx hy; cases h
        simp [Op.equalIn, run_under hdd]
      · simp at h
    | int k =>
      simp only [eqInt] at h
      split at h
      · simp only [VR] at hx hy; subst hx hy
        split at h
        · rename_i hk; cases h
          simp [Op.equalIn, run_under hdd, hk]
        · simp at h
      · simp at h
    | string =>
      simp only [eqStr] at h
      split at h
      · simp only [VR] at hx hy; subst hx hy; cases h
        simp only [Op.equalIn, Sem.run_bind, run_under hdd, Result.andThen_ok, Sem.run_pure]
        congr 1
        rename_i s s'
        rw [Bool.eq_iff_iff]
        simp only [beq_iff_eq]
        rw [show ((ByteArray.mk ⟨s⟩) == (ByteArray.mk ⟨s'⟩)) = ((⟨s⟩ : Array UInt8) == ⟨s'⟩) from rfl, beq_iff_eq]
        exact ⟨fun e => by injection e, fun e => by rw [e]⟩
      · simp at h
    | pointer e =>
      simp only [eqPtr] at h
      split at h
      · simp only [VR] at hx; subst hx; cases h
        rename_i q
        cases q with
        | none => simp only [VR] at hy; subst hy; simp [Op.equalIn, run_under hdd]
        | some q => simp only [VR] at hy; obtain ⟨ci, _, rfl⟩ := hy; simp [Op.equalIn, run_under hdd]
      · simp only [VR] at hx hy; subst hy; cases h
        obtain ⟨ci, _, rfl⟩ := hx; simp [Op.equalIn, run_under hdd]
      · simp at h
    | slice e =>
      simp only [eqSl] at h
      split at h
      · simp only [VR] at hx hy; obtain ⟨_, _, _, rfl, ha⟩ := hx; obtain ⟨_, _, _, rfl, hb⟩ := hy; cases ha trivial; cases hb trivial; cases h; simp [Op.equalIn, run_under hdd]
      · simp only [VR, SR] at hx hy; obtain ⟨_, _, _, rfl, ha⟩ := hx; cases ha trivial; cases h; obtain ⟨_, _, _, _, rfl, _⟩ := hy; simp [Op.equalIn, run_under hdd]
      · simp only [VR, SR] at hx hy; obtain ⟨_, _, _, rfl, hb⟩ := hy; cases hb trivial; cases h; obtain ⟨_, _, _, _, rfl, _⟩ := hx; simp [Op.equalIn, run_under hdd]
      · simp at h
    | map k e =>
      simp only [eqMap] at h
      split at h
      · simp only [VR] at hx; subst hx; cases h
        rename_i q
        cases q with
        | none => simp only [VR] at hy; subst hy; simp [Op.equalIn, run_under hdd]
        | some q => simp only [VR] at hy; obtain ⟨ci, _, rfl⟩ := hy; simp [Op.equalIn, run_under hdd]
      · simp only [VR] at hx hy; subst hy; cases h
        obtain ⟨ci, _, rfl⟩ := hx; simp [Op.equalIn, run_under hdd]
      · simp at h
    | func a b c =>
      simp only [eqFn] at h
      split at h
      · simp only [VR] at hx hy; subst hx hy; cases h; simp [Op.equalIn, run_under hdd]
      · simp only [VR] at hx hy; subst hx; obtain ⟨_, _, rfl, _⟩ := hy; cases h; simp [Op.equalIn, run_under hdd]
      · simp only [VR] at hx hy; subst hy; obtain ⟨_, _, rfl, _⟩ := hx; cases h; simp [Op.equalIn, run_under hdd]
      · simp at h
    | interface ms =>
      simp only [eqIface] at h
      split at h
      · simp only [VR] at hx hy; subst hx; obtain ⟨_, rfl, _⟩ := hy; cases h; simp [Op.equalIn, run_under hdd]
      · simp only [VR] at hx hy; subst hy; obtain ⟨_, rfl, _⟩ := hx; cases h; simp [Op.equalIn, run_under hdd]
      · simp at h
    | _ => simp at h
end
end Go.Abs
end
section
namespace Go.Abs
open Go

section
variable {P : Program} {p : Phi} {w : World}

theorem eqA_undef (d : Nat) (t : TypeId) (y : AV) : eqA P d t .undef y = none := by
  cases d with
  | zero => rfl
  | succ d => simp only [eqA]; split <;> first | rfl | (split <;> rfl)
theorem eqA_nilIface_undef (d : Nat) (t : TypeId) : eqA P d t .nilIface .undef = none := by
  cases d with
  | zero => rfl
  | succ d => simp only [eqA]; split <;> first | rfl | (split <;> rfl)
theorem eqA_nilIface_nil (d : Nat) (t : TypeId) : eqA P d t .nilIface .nilIface = none := by
  cases d with
  | zero => rfl
  | succ d => simp only [eqA]; split <;> first | rfl | (split <;> rfl)
theorem VR_nilIface {x : AV} (h : VR p x .nilIface) : x = .undef ∨ x = .nilIface := by
  cases x with
  | undef => exact .inl rfl
  | nilIface => exact .inr rfl
  | ptr a => cases a <;> simp [VR] at h
  | sl a => cases a <;> simp [VR, SR] at h
  | map a => cases a <;> simp [VR] at h
  | _ => simp [VR] at h
theorem VR_agg {x : AV} {cs : Array Value} (h : VR p x (.agg cs)) : x = .undef ∨ ∃ xs, x = .agg xs := by
  cases x with
  | undef => exact .inl rfl
  | agg xs => exact .inr ⟨xs, rfl⟩
  | ptr a => cases a <;> simp [VR] at h
  | sl a => cases a <;> simp [VR, SR] at h
  | map a => cases a <;> simp [VR] at h
  | _ => simp [VR] at h

theorem eqGuard_run {op : BinOp} {t : TypeId} {xo yo : Operand} {x y : Value} (h1 : ¬ (x = .nilIface ∧ y = .nilIface)) (h2 : (∃ cs, x = .agg cs) → P.eqGuardType P.depth t = false) :
    (eqGuard op t xo yo x y).run P w = .ok () w := by
  unfold eqGuard
  by_cases hop : op = .eql ∨ op = .neq
  · have : (!(match op with | .eql | .neq => true | _ => false)) = false := by rcases hop with rfl | rfl <;> rfl
    cases x with
    | nilIface =>
      cases y with
      | nilIface => exact absurd ⟨rfl, rfl⟩ h1
      | _ => rcases hop with rfl | rfl <;> rfl
    | agg cs =>
      cases y with
      | agg ds => rcases hop with rfl | rfl <;> simp [h2 ⟨cs, rfl⟩]
      | _ => rcases hop with rfl | rfl <;> rfl
    | _ => rcases hop with rfl | rfl <;> rfl
  · cases op <;> first | rfl | (exact absurd (.inl rfl) hop) | (exact absurd (.inr rfl) hop)

theorem eqT_sound {op : BinOp} {neg : Bool} {t : TypeId} {x y : AV} {x' y' : Value} {v : AV} (hx : VR p x x') (hy : VR p y y') (h : eqT P neg t x y = some v) {xo yo : Operand} :
    (eqGuard op t xo yo x' y').run P w = .ok () w ∧ ∃ b, (Op.equal t x' y').run P w = .ok b w ∧ v = .bool (if neg then !b else b) := by
  unfold eqT at h
  split at h
  · rename_i b hb
    cases h
    split at hb
    · simp at hb
    · rename_i hagg
      refine ⟨eqGuard_run ?_ ?_, b, eqA_sound (n := 10000) (by omega) hx hy hb, rfl⟩
      · rintro ⟨rfl, rfl⟩
        rcases VR_nilIface hx with rfl | rfl
        · rw [eqA_undef] at hb; simp at hb
        · rcases VR_nilIface hy with rfl | rfl
          · rw [eqA_nilIface_undef] at hb; simp at hb
          · rw [eqA_nilIface_nil] at hb; simp at hb
      · rintro ⟨cs, rfl⟩
        rcases VR_agg hx with rfl | ⟨xs, rfl⟩
        · rw [eqA_undef] at hb; simp at hb
        · simpa [isAggV] using hagg
  · simp at h

theorem VR_int {x : AV} {k : IntKind} {n : Int} (h : VR p x (.int k n)) : x = .undef ∨ x = .int k n := by
  cases x with
  | undef => exact .inl rfl
  | int k' n' => simp only [VR] at h; cases h; exact .inr rfl
  | ptr a => cases a <;> simp [VR] at h
  | sl a => cases a <;> simp [VR, SR] at h
  | map a => cases a <;> simp [VR] at h
  | _ => simp [VR] at h

theorem binOp_eql {t : TypeId} {x y : AV} {x' y' : Value} (hx : VR p x x') (hy : VR p y y') (hn : x ≠ .undef) (hy0 : y ≠ .undef) (h1 : ∀ k a k' b, ¬ (x = .int k a ∧ y = .int k' b)) (h2 : ∀ a b, ¬ (x = .str a ∧ y = .str b)) :
    binOp .eql t x' y' = (do pure (.bool (← Op.equal t x' y'))) ∧ binOp .neq t x' y' = (do pure (.bool (!(← Op.equal t x' y')))) := by
  have ex : ∀ {x : AV} {x' : Value}, VR p x x' → x ≠ .undef → (∃ k a, x' = .int k a ∧ x = .int k a) ∨ (∃ s, x' = .string ⟨⟨s⟩⟩ ∧ x = .str s) ∨ ((∀ k a, x' ≠ .int k a) ∧ (∀ s, x' ≠ .string s) ∧ (∀ k a, x' ≠ .float k a) ∧ (∀ k a b, x' ≠ .complex k a b)) := by
    intro x x' h hn
    cases x with
    | undef => exact absurd rfl hn
    | int k a => simp only [VR] at h; exact .inl ⟨k, a, h, rfl⟩
    | str s => simp only [VR] at h; exact .inr (.inl ⟨s, h, rfl⟩)
    | bool b => simp only [VR] at h; subst h; simp
    | nilFn => simp only [VR] at h; subst h; simp
    | nilIface => simp only [VR] at h; subst h; simp
    | ptr a => cases a <;> simp only [VR] at h <;> first | (subst h; simp; done) | (obtain ⟨_, _, rfl⟩ := h; simp)
    | map a => cases a <;> simp only [VR] at h <;> first | (subst h; simp; done) | (obtain ⟨_, _, rfl⟩ := h; simp)
    | sl a => cases a <;> simp only [VR, SR] at h <;> first | (obtain ⟨_, _, _, _, rfl, _⟩ := h; simp; done) | (obtain ⟨_, _, _, rfl, _⟩ := h; simp)
    | fn => simp only [VR] at h; obtain ⟨_, _, rfl, _⟩ := h; simp
    | yld => simp only [VR] at h; obtain ⟨_, _, rfl⟩ := h; simp
    | iface => simp only [VR] at h; obtain ⟨_, rfl, _⟩ := h; simp
    | agg => simp only [VR] at h; obtain ⟨_, rfl, _⟩ := h; simp
    | tup => simp only [VR] at h; obtain ⟨_, rfl, _⟩ := h; simp
  rcases ex hx hn with ⟨k, a, rfl, rfl⟩ | ⟨s, rfl, rfl⟩ | ⟨i1, i2, i3, i4⟩
  · rcases ex hy hy0 with ⟨k', b, rfl, rfl⟩ | ⟨s', rfl, rfl⟩ | ⟨j1, j2, j3, j4⟩
    · exact absurd ⟨rfl, rfl⟩ (h1 _ _ _ _)
    · exact ⟨rfl, rfl⟩
    · cases y' <;> first | exact ⟨rfl, rfl⟩ | exact absurd rfl (j1 _ _)
  · rcases ex hy hy0 with ⟨k', b, rfl, rfl⟩ | ⟨s', rfl, rfl⟩ | ⟨j1, j2, j3, j4⟩
    · exact ⟨rfl, rfl⟩
    · exact absurd ⟨rfl, rfl⟩ (h2 _ _)
    · cases y' <;> first | exact ⟨rfl, rfl⟩ | exact absurd rfl (j2 _)
  · cases x' <;> first
      | exact absurd rfl (i1 _ _)
      | exact absurd rfl (i2 _)
      | exact absurd rfl (i3 _ _)
      | exact absurd rfl (i4 _ _ _)
      | (cases y' <;> exact ⟨rfl, rfl⟩)

theorem eqT_undef (neg : Bool) (t : TypeId) (y : AV) : eqT P neg t .undef y = none := by
  unfold eqT; simp [isAggV, eqA_undef]
theorem eqA_undef_r : ∀ (d : Nat) (t : TypeId) (x : AV), eqA P d t x .undef = none := by
  intro d t x
  have h1 : ∀ x, eqBool x .undef = none := fun x => by cases x <;> rfl
  have h2 : ∀ x, eqInt x .undef = none := fun x => by cases x <;> rfl
  have h3 : ∀ x, eqStr x .undef = none := fun x => by cases x <;> rfl
  have h4 : ∀ x, eqPtr x .undef = none := fun x => by cases x with | ptr a => cases a <;> rfl | _ => rfl
  have h5 : ∀ x, eqSl x .undef = none := fun x => by cases x with | sl a _ _ _ ex => cases a <;> cases ex <;> rfl | _ => rfl
  have h6 : ∀ x, eqMap x .undef = none := fun x => by cases x with | map a => cases a <;> rfl | _ => rfl
  have h7 : ∀ x, eqFn x .undef = none := fun x => by cases x <;> rfl
  have h8 : ∀ x, eqIface x .undef = none := fun x => by cases x <;> rfl
  cases d with
  | zero => rfl
  | succ d =>
    simp only [eqA, h1, h2, h3, h4, h5, h6, h7, h8, show aggOf AV.undef = none from rfl, Option.bind_none]
    split <;> first | rfl | (split <;> first | rfl | (cases aggOf x <;> rfl)) | (cases aggOf x <;> rfl)
theorem eqT_undef_r (neg : Bool) (t : TypeId) (x : AV) : eqT P neg t x .undef = none := by
  unfold eqT; rw [eqA_undef_r]; simp

theorem binA_sound {op : BinOp} {t _yt : TypeId} {x y : AV} {x' y' : Value} {v : AV} (hx : VR p x x') (hy : VR p y y') (h : binA P op t x y = some v) {xo yo : Operand} :
    Gives P p (do eqGuard op t xo yo x' y'; binOp op t x' y') w v := by
  unfold binA at h
  split at h
  · -- two numbers
    rename_i k a k' b
    simp only [VR] at hx hy
    subst hx hy
    have hg : (eqGuard op t xo yo (.int k a) (.int k' b)).run P w = .ok () w := eqGuard_run (by simp) (by simp)
    unfold Gives
    simp only [Sem.run_bind, hg, Result.andThen_ok]
    by_cases hs : op = .shl ∨ op = .shr
    · rcases hs with rfl | rfl <;> exact shA_sound (yk := k') (by simp) h
    · have h' : (if k = k' then intA op k a b else none) = some v := by
        cases op <;> first | exact h | (exact absurd (.inl rfl) hs) | (exact absurd (.inr rfl) hs)
      split at h'
      · rename_i hk
        subst hk
        have := intA_sound (P := P) (p := p) (w := w) h'
        cases op <;> first
          | (exact absurd (.inl rfl) hs)
          | (exact absurd (.inr rfl) hs)
          | (simpa [binOp, Gives] using this)
      · simp at h'
  · rename_i a b
    simp only [VR] at hx hy
    subst hx hy
    have hg : (eqGuard op t xo yo (.string ⟨⟨a⟩⟩) (.string ⟨⟨b⟩⟩)).run P w = .ok () w := eqGuard_run (by simp) (by simp)
    unfold Gives
    simp only [Sem.run_bind, hg, Result.andThen_ok]
    by_cases hs : op = .shl ∨ op = .shr
    · rcases hs with rfl | rfl <;> simp at h
    · have h' : strA op a b = some v := by
        cases op <;> first | exact h | (exact absurd (.inl rfl) hs) | (exact absurd (.inr rfl) hs)
      have := strA_sound (P := P) (p := p) (w := w) h'
      cases op <;> first
          | (exact absurd (.inl rfl) hs)
          | (exact absurd (.inr rfl) hs)
          | (simpa [binOp, Gives] using this)
  · rename_i h1 h2
    have hu : x ≠ .undef ∧ y ≠ .undef := by
      constructor
      · rintro rfl; split at h <;> first | (rw [eqT_undef] at h; simp at h; done) | simp at h
      · rintro rfl; split at h <;> first | (rw [eqT_undef_r] at h; simp at h; done) | simp at h
    have hb := binOp_eql (t := t) hx hy hu.1 hu.2 (fun k a k' b e => h1 k a k' b e.1 e.2) (fun a b e => h2 a b e.1 e.2)
    split at h
    · obtain ⟨hg, b, hr, rfl⟩ := eqT_sound (w := w) (op := .eql) hx hy h (xo := xo) (yo := yo)
      refine ⟨.bool b, ?_, by simp [VR]⟩
      rw [hb.1]
      simp only [Sem.run_bind, hg, Result.andThen_ok, hr, Sem.run_pure]
    · obtain ⟨hg, b, hr, rfl⟩ := eqT_sound (w := w) (op := .neq) hx hy h (xo := xo) (yo := yo)
      refine ⟨.bool !b, ?_, by simp [VR]⟩
      rw [hb.2]
      simp only [Sem.run_bind, hg, Result.andThen_ok, hr, Sem.run_pure]
    · simp at h

theorem unA_sound {op : UnOp} {x : AV} {x' : Value} {v : AV} (hx : VR p x x') (h : unA op x = some v) : Gives P p (Op.unary op x') w v := by
  unfold unA at h
  split at h
  · simp only [VR] at hx; subst hx; cases h; exact ⟨_, rfl, by simp [VR]⟩
  · simp only [VR] at hx; subst hx; simp only [intA] at h; cases h; exact ⟨_, rfl, by simp [VR]⟩
  · simp only [VR] at hx; subst hx; cases h; exact ⟨_, rfl, by simp [VR]⟩
  · simp at h

theorem convA_sound {src dst : TypeId} {x : AV} {x' : Value} {v : AV} (hx : VR p x x') (h : convA P src dst x = some v) : Gives P p (convert src dst x') w v := by
  unfold convA at h
  split at h
  · rename_i k0 k n h1 h2
    simp only [VR] at hx; subst hx; cases h
    refine ⟨.int k0 (k0.wrap n), ?_, by simp [VR]⟩
    simp only [convert, Sem.run_bind, run_under h1, run_under h2, Result.andThen_ok]
    rfl
  · rename_i s0 h1 h2
    simp only [VR] at hx; subst hx; cases h
    refine ⟨.string ⟨⟨s0⟩⟩, ?_, by simp only [VR]⟩
    simp only [convert, Sem.run_bind, run_under h1, run_under h2, Result.andThen_ok]
    rfl
  · simp at h

theorem offA_spec {x : AV} {n : Nat} {v : AV} (h : offA x n = some v) : ∃ a, x = .ptr (some a) ∧ v = .ptr (some ⟨a.b, a.o + n⟩) := by
  unfold offA at h
  split at h
  · rename_i a; cases h; exact ⟨a, rfl, rfl⟩
  · simp at h

theorem addr_add (c o n : Nat) : (⟨c, o, none⟩ : Addr).add n = ⟨c, o + n, none⟩ := by
  unfold Addr.add; split
  · rename_i h; subst h; rfl
  · rfl

theorem VR_ptr_add {a : AA} {ci : CI} (h : p a.b = some ci) (n : Nat) : VR p (.ptr (some ⟨a.b, a.o + n⟩)) (.pointer (some ((⟨ci.c, a.o + ci.d, none⟩ : Addr).add n))) := by
  simp only [VR, addr_add]
  exact ⟨ci, h, by simp only [Nat.add_right_comm]⟩

theorem fieldAddrA_sound {s : TypeId} {x : AV} {f : Nat} {x' : Value} {v : AV} (hx : VR p x x') (h : fieldAddrA P s x f = some v) : Gives P p (Instr.fieldAt s x' f) w v := by
  unfold fieldAddrA fieldOf at h
  split at h
  · rename_i off ft hf
    split at h
    · rename_i n hn
      obtain ⟨a, rfl, rfl⟩ := offA_spec h
      simp only [VR] at hx
      obtain ⟨ci, hci, rfl⟩ := hx
      split at hf
      · rename_i fields hd
        simp only [Option.map_eq_some_iff] at hf
        obtain ⟨fd, h1, h2⟩ := hf
        cases h2
        unfold Gives Instr.fieldAt
        have h1' : fields[f]? = some fd := by simpa using h1
        simp only [Sem.run_bind, run_under hd, Result.andThen_ok, h1', Instr.sureAddr, Sem.run_pure, fieldPlace, run_size hn, Sem.run_ite, Nat.add_one_ne_zero, if_false]
        exact ⟨_, rfl, VR_ptr_add hci _⟩
      · simp at hf
    · simp at h
  · simp at h

theorem fieldA_sound {s : TypeId} {x : AV} {f : Nat} {x' : Value} {v : AV} (hx : VR p x x') (h : fieldA P s x f = some v) : Gives P p (Instr.field s x' f) w v := by
  unfold fieldA at h
  split at h
  · rename_i off ft cs hf
    simp only [VR] at hx
    obtain ⟨cs', rfl, hcs⟩ := hx
    unfold fieldOf at hf
    split at hf
    · rename_i fields hd
      simp only [Option.map_eq_some_iff] at hf
      obtain ⟨fd, h1, h2⟩ := hf
      cases h2
      unfold Gives Instr.field
      have h1' : fields[f]? = some fd := by simpa using h1
      simp only [Sem.run_bind, run_under hd, Result.andThen_ok, h1', asAgg, Sem.run_pure]
      exact partA_sound hcs h
    · simp at hf
  · simp at h

theorem ixA_spec {sz len : Nat} {a : AA} {i : Int} {v : AV} (h : ixA sz len a i = some v) : 0 ≤ i ∧ i < len ∧ v = .ptr (some ⟨a.b, a.o + i.toNat * sz⟩) := by
  unfold ixA at h
  split at h
  · split at h
    · cases h; exact ⟨‹_›, ‹_›, rfl⟩
    · simp at h
  · simp at h

theorem indexAddrA_sound {t : TypeId} {x i : AV} {x' i' : Value} {v : AV} (hx : VR p x x') (hi : VR p i i') (h : indexAddrA P t x i = some v) : Gives P p (Instr.indexAt t x' i') w v := by
  unfold indexAddrA at h
  split at h
  · rename_i e hd
    split at h
    · rename_i a sz len cap ex k n
      simp only [VR] at hi; subst hi
      split at h
      · rename_i s hs
        split at h
        · obtain ⟨h0, h1, rfl⟩ := ixA_spec h
          simp only [VR, SR] at hx
          obtain ⟨ci, off, cap', hci, rfl, hlc, hcc, _, _, hoff⟩ := hx
          have : off = a.o + ci.d := hoff (by omega)
          subst this
          unfold Gives Instr.indexAt
          simp only [Sem.run_bind, asIntOf, Sem.run_pure, run_under hd, Result.andThen_ok, h0, h1, and_self, if_true, run_size hs]
          exact ⟨_, rfl, VR_ptr_add hci _⟩
        · simp at h
      · simp at h
    · simp at h
  · rename_i len e hd
    split at h
    · rename_i a k n
      simp only [VR] at hi; subst hi
      split at h
      · rename_i s hs
        obtain ⟨h0, h1, rfl⟩ := ixA_spec h
        simp only [VR] at hx
        obtain ⟨ci, hci, rfl⟩ := hx
        unfold Gives Instr.indexAt
        simp only [Sem.run_bind, asIntOf, Sem.run_pure, run_under hd, Result.andThen_ok, Instr.sureAddr, h0, h1, and_self, if_true, run_size hs]
        exact ⟨_, rfl, VR_ptr_add hci _⟩
      · simp at h
    · simp at h
  · simp at h

theorem indexA_sound {t : TypeId} {x i : AV} {x' i' : Value} {v : AV} (hx : VR p x x') (hi : VR p i i') (h : indexA P t x i = some v) : Gives P p (Instr.index t x' i') w v := by
  unfold indexA at h
  split at h
  · rename_i len e hd
    split at h
    · rename_i cs k n
      simp only [VR] at hx hi; subst hi
      obtain ⟨cs', rfl, hcs⟩ := hx
      split at h
      · rename_i h0
        split at h
        · rename_i h1
          split at h
          · rename_i s hs
            unfold Gives Instr.index
            simp only [Sem.run_bind, asIntOf, Sem.run_pure, run_under hd, Result.andThen_ok, h0, h1, and_self, if_true, run_size hs]
            exact partA_sound hcs h
          · simp at h
        · simp at h
      · simp at h
    · simp at h
  · rename_i hd
    split at h
    · rename_i s k n
      simp only [VR] at hx hi; subst hx hi
      split at h
      · rename_i h0
        split at h
        · rename_i c hc
          cases h
          unfold Gives Instr.index
          have : (if 0 ≤ n then (ByteArray.mk ⟨s⟩)[n.toNat]? else none) = some c := by
            rw [if_pos h0]
            have hlt : n.toNat < s.length := (List.getElem?_eq_some_iff.1 hc).1
            rw [getElem?_pos (ByteArray.mk ⟨s⟩) n.toNat (by simpa [str_size] using hlt)]
            congr 1
            have := (List.getElem?_eq_some_iff.1 hc).2
            rw [← this]; rfl
          simp only [Sem.run_bind, asIntOf, Sem.run_pure, run_under hd, Result.andThen_ok, this]
          exact ⟨_, rfl, by simp [VR]⟩
        · simp at h
      · simp at h
    · simp at h
  · simp at h

theorem hiA_sound {hi : Option AV} {hi' : Option Value} {len cap h : Nat} (hr : ∀ a, hi = some a → ∃ v, hi' = some v ∧ VR p a v) (hn : hi = none → hi' = none) (e : hiA hi len cap = some h) (code : BoundsCode) :
    (match hi' with | some v => Instr.sliceBound v cap code | none => pure len).run P w = .ok h w := by
  unfold hiA at e
  split at e
  · cases e; rw [hn rfl]; rfl
  · rename_i k n
    obtain ⟨v, rfl, hv⟩ := hr _ rfl
    simp only [VR] at hv; subst hv
    split at e
    · split at e
      · cases e; simp [Instr.sliceBound, asIntOf, *]
      · simp at e
    · simp at e
  · simp at e
theorem loA_sound {lo : Option AV} {lo' : Option Value} {h l : Nat} (hr : ∀ a, lo = some a → ∃ v, lo' = some v ∧ VR p a v) (hn : lo = none → lo' = none) (e : loA lo h = some l) (code : BoundsCode) :
    (match lo' with | some v => Instr.sliceBound v h code | none => pure 0).run P w = .ok l w ∧ l ≤ h := by
  unfold loA at e
  split at e
  · cases e; rw [hn rfl]; exact ⟨rfl, Nat.zero_le _⟩
  · rename_i k n _
    obtain ⟨v, rfl, hv⟩ := hr _ rfl
    simp only [VR] at hv; subst hv
    split at e
    · split at e
      · cases e; exact ⟨by simp [Instr.sliceBound, asIntOf, *], by omega⟩
      · simp at e
    · simp at e
  · simp at e
theorem hiA_le {hi : Option AV} {len cap h : Nat} (hlc : len ≤ cap) (e : hiA hi len cap = some h) : h ≤ cap := by
  unfold hiA at e
  split at e
  · cases e; exact hlc
  · split at e
    · split at e
      · cases e; omega
      · simp at e
    · simp at e
  · simp at e
theorem hiA_cap {hi : Option AV} {len cap cap' h : Nat} (hc : cap ≤ cap') (e : hiA hi len cap = some h) : hiA hi len cap' = some h := by
  unfold hiA at e ⊢
  split at e
  · exact e
  · rename_i n _
    split at e
    · split at e
      · rename_i h1 h2
        rw [if_pos h1, if_pos (by omega)]; exact e
      · simp at e
    · simp at e
  · simp at e

theorem bounds_sound {isSlice : Bool} {lo hi : Option AV} {lo' hi' : Option Value} {len cap h l : Nat} (hlr : ∀ a, lo = some a → ∃ v, lo' = some v ∧ VR p a v) (hln : lo = none → lo' = none)
    (hhr : ∀ a, hi = some a → ∃ v, hi' = some v ∧ VR p a v) (hhn : hi = none → hi' = none) (e1 : hiA hi len cap = some h) (e2 : loA lo h = some l) :
    (Instr.sliceBounds isSlice len cap lo' hi' none).run P w = .ok (l, h, cap) w := by
  unfold Instr.sliceBounds
  have a1 := hiA_sound (P := P) (w := w) hhr hhn e1 (if isSlice then .sliceAcap else .sliceAlen)
  have a2 := (loA_sound (P := P) (w := w) hlr hln e2 .sliceB).1
  cases hi' with
  | none =>
    cases lo' with
    | none => simp only [Sem.run_bind, Sem.run_pure, Result.andThen_ok] at a1 a2 ⊢; cases a1; cases a2; rfl
    | some b =>
      simp only [Sem.run_bind, Sem.run_pure, Result.andThen_ok] at a1 a2 ⊢; cases a1
      simp only [Option.isSome_none, Bool.false_eq_true, if_false, a2, Result.andThen_ok]
  | some c =>
    cases lo' with
    | none => simp only [Sem.run_bind, Sem.run_pure, Result.andThen_ok, a1] at a2 ⊢; cases a2; rfl
    | some b => simp only [Sem.run_bind, Sem.run_pure, Result.andThen_ok, a1, Option.isSome_none, Bool.false_eq_true, if_false, a2]

theorem sliceA_sound {t : TypeId} {x : AV} {x' : Value} {lo hi : Option AV} {lo' hi' : Option Value} {v : AV} (hx : VR p x x') (hlr : ∀ a, lo = some a → ∃ v, lo' = some v ∧ VR p a v) (hln : lo = none → lo' = none)
    (hhr : ∀ a, hi = some a → ∃ v, hi' = some v ∧ VR p a v) (hhn : hi = none → hi' = none) (h : sliceA P t x lo hi = some v) : Gives P p (Instr.sliceAt t x' lo' hi' none) w v := by
  unfold sliceA at h
  unfold Gives Instr.sliceAt
  split at h
  · rename_i hd
    split at h
    · rename_i s
      simp only [VR] at hx; subst hx
      split at h
      · rename_i hh e1
        split at h
        · rename_i l e2
          cases h
          simp only [Sem.run_bind, run_under hd, Result.andThen_ok, Instr.slice, Option.isSome_none, Bool.false_eq_true, if_false, str_size, Sem.run_pure]
          rw [bounds_sound hlr hln hhr hhn e1 e2]
          refine ⟨_, rfl, ?_⟩
          simp only [VR]
          rw [show (ByteArray.mk ⟨s⟩) = ByteArray.mk s.toArray from rfl, ByteArray.extract_mk]
          congr 2
          rw [List.drop_take]
        · simp at h
      · simp at h
    · simp at h
  · rename_i e hd
    split at h
    · rename_i a sz len cap ex s hs
      split at h
      · rename_i hh e1
        split at h
        · rename_i l e2
          simp only [Sem.run_bind, run_under hd, Result.andThen_ok]
          split at h
          · rename_i a
            split at h
            · rename_i hss
              cases h
              simp only [VR, SR] at hx
              obtain ⟨ci, off, cap', hci, rfl, hlc, hcc, hex, hbd, hoff⟩ := hx
              simp only [Instr.slice, Sem.run_bind, run_under hd, Result.andThen_ok]
              rw [bounds_sound hlr hln hhr hhn (hiA_cap hcc e1) e2]
              simp only [Result.andThen_ok, run_size hs, Sem.run_pure]
              refine ⟨_, rfl, ?_⟩
              have hle := hiA_le hlc e1
              have hl := (loA_sound (P := P) (w := w) hlr hln e2 .sliceB).2
              simp only [VR, SR]
              by_cases hm : cap' = l
              · refine ⟨ci, off, cap' - l, hci, by simp [hm], by omega, by omega, fun h => by rw [hex h], fun h => ?_, fun h => by omega⟩
                have := hbd h
                rw [hm, Nat.sub_self]; omega
              · refine ⟨ci, off + l * s, cap' - l, hci, ?_, by omega, by omega, fun h => by rw [hex h], fun h => ?_, fun h => ?_⟩
                · simp only [if_neg hm, Option.map_some, addr_add]
                · have hsz : s = sz := by rcases hss with e | e; · exact e
                                          · rw [h] at e; cases e
                  subst hsz
                  have := hbd h
                  have : l * s + (cap' - l) * s = cap' * s := by rw [← Nat.add_mul]; congr 1; omega
                  omega
                · have := hoff (by omega); omega
            · simp at h
          · split at h
            · rename_i hc; subst hc
              cases h
              simp only [VR] at hx
              obtain ⟨h1, _, a, rfl, ha⟩ := hx
              subst h1
              have hle := hiA_le (Nat.le_refl 0) e1
              have hl := (loA_sound (P := P) (w := w) hlr hln e2 .sliceB).2
              have h0 : hh = 0 := by omega
              have l0 : l = 0 := by omega
              subst h0 l0
              simp only [Instr.slice, Sem.run_bind, run_under hd, Result.andThen_ok]
              rw [bounds_sound hlr hln hhr hhn e1 e2]
              simp only [Result.andThen_ok, run_size hs, Sem.run_pure]
              refine ⟨_, rfl, ?_⟩
              simp only [VR]
              exact ⟨trivial, trivial, a, by simp, ha⟩
            · simp at h
        · simp at h
      · simp at h
    · simp at h
  · rename_i n e hd
    split at h
    · rename_i a s hs
      split at h
      · rename_i hh e1
        split at h
        · rename_i l e2
          cases h
          simp only [VR] at hx
          obtain ⟨ci, hci, rfl⟩ := hx
          simp only [Sem.run_bind, run_under hd, Result.andThen_ok, Instr.sureAddr, Sem.run_pure]
          rw [bounds_sound hlr hln hhr hhn e1 e2]
          simp only [Result.andThen_ok, run_size hs]
          refine ⟨_, rfl, ?_⟩
          have hle := hiA_le (Nat.le_refl n) e1
          have hl := (loA_sound (P := P) (w := w) hlr hln e2 .sliceB).2
          simp only [VR, SR]
          by_cases hm : n = l
          · exact ⟨ci, a.o + ci.d, n - l, hci, by simp [hm], by omega, by omega, fun _ => rfl, by simp, fun h => by omega⟩
          · refine ⟨ci, a.o + ci.d + l * s, n - l, hci, ?_, by omega, by omega, fun _ => rfl, by simp, fun h => by omega⟩
            simp only [if_neg hm, addr_add]
        · simp at h
      · simp at h
    · simp at h
  · simp at h

theorem slice3A_sound {t : TypeId} {x : AV} {x' : Value} {lo : Option AV} {lo' : Option Value} {hi mx : AV} {hi' mx' : Value} {v : AV} (hx : VR p x x') (hlr : ∀ a, lo = some a → ∃ v, lo' = some v ∧ VR p a v) (hln : lo = none → lo' = none)
    (hhr : VR p hi hi') (hmr : VR p mx mx') (h : slice3A P t x lo hi mx = some v) : Gives P p (Instr.sliceAt t x' lo' (some hi') (some mx')) w v := by
  unfold slice3A at h
  unfold Gives Instr.sliceAt
  split at h
  · rename_i e hd
    split at h
    · rename_i a sz _ cap ex s hs
      split at h
      · rename_i mm e0
        split at h
        · rename_i hh e1
          split at h
          · rename_i l e2
            split at h
            · rename_i hss
              cases h
              simp only [VR, SR] at hx
              obtain ⟨ci, off, cap', hci, rfl, hlc, hcc, hex, hbd, hoff⟩ := hx
              simp only [Sem.run_bind, run_under hd, Result.andThen_ok, Instr.slice]
              have hb : ∀ n, (Instr.sliceBounds true n cap' lo' (some hi') (some mx')).run P w = .ok (l, hh, mm) w := by
                intro n
                have a0 := hiA_sound (P := P) (w := w) (hi := some mx) (hi' := some mx') (len := 0) (fun a ha => by cases ha; exact ⟨_, rfl, hmr⟩) (by simp) (hiA_cap hcc e0) .slice3Acap
                have a1 := hiA_sound (P := P) (w := w) (hi := some hi) (hi' := some hi') (len := 0) (fun a ha => by cases ha; exact ⟨_, rfl, hhr⟩) (by simp) e1 .slice3B
                have a2 := (loA_sound (P := P) (w := w) hlr hln e2 .slice3C).1
                unfold Instr.sliceBounds
                simp only at a0 a1
                cases lo' with
                | none => simp only [Sem.run_bind, if_true, a0, a1, Result.andThen_ok, Sem.run_pure] at a2 ⊢; cases a2; rfl
                | some b => simp only at a2; simp only [Sem.run_bind, if_true, a0, a1, Result.andThen_ok, Sem.run_pure, Option.isSome_some, a2]
              rw [hb]
              simp only [Result.andThen_ok, run_size hs, Sem.run_pure]
              refine ⟨_, rfl, ?_⟩
              have hm1 := hiA_le (hi := some mx) (Nat.zero_le _) e0
              have hle := hiA_le (hi := some hi) (Nat.zero_le _) e1
              have hl := (loA_sound (P := P) (w := w) hlr hln e2 .sliceB).2
              simp only [VR, SR]
              by_cases hm : mm = l
              · exact ⟨ci, off, mm - l, hci, by simp [hm], by omega, Nat.le_refl _, fun _ => rfl, by simp, fun h => by omega⟩
              · refine ⟨ci, off + l * s, mm - l, hci, ?_, by omega, Nat.le_refl _, fun _ => rfl, by simp, fun h => ?_⟩
                · simp only [if_neg hm, Option.map_some, addr_add]
                · have := hoff (by omega); omega
            · simp at h
          · simp at h
        · simp at h
      · simp at h
    · simp at h
  · simp at h
end
end Go.Abs
end
