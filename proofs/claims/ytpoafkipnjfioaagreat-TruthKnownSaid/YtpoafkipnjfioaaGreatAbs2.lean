/- The abstract machine, and its limit: what it answers with rounds enough. -/
import Derived.Test.YtpoafkipnjfioaaGreatAbs1
namespace Go.Abs
open Go

/-- What is called: a function, or a round of a loop. -/
inductive Tg where
  | fn (f : FuncId)
  | yl (b : Nat)

abbrev CallF := Tg → List AV → Mem → R

noncomputable def callA (call : CallF) (fv : AV) (args : List AV) (m : Mem) : R :=
  match fv with
  | .fn (.func f) first cap => call (.fn f) (first ++ args ++ cap) m
  | .yld b => call (.yl b) args m
  | _ => none

/-- append's element, by the types of its operands. -/
def appElem (P : Program) (st xt : TypeId) : Option (Nat × Nat) :=
  match P.underlying st with
  | some (.slice e) => match (match P.underlying xt with | some (.slice _) | some .string => true | _ => false), P.info? e with
    | true, some i => match i.zero with
      | some z => if z.cells.size = i.size ∧ 0 < i.bytes then some (i.size, i.bytes) else none
      | none => none
    | _, _ => none
  | _ => none
noncomputable def appendOp (P : Program) (st xt : TypeId) (s x : AV) (m : Mem) : R :=
  match P.underlying xt with
  | some (.int _) => appendZ P st s x m
  | _ => (appElem P st xt).bind fun nw => appendA nw.1 nw.2 s x m
def copyElem (P : Program) (st : TypeId) : Option Nat :=
  match P.underlying st with
  | some (.slice e) => szT P e
  | _ => none

/-- Operations that change memory, and calls. -/
noncomputable def effK (call : CallF) (P : Program) (op : Op) (t : List AV) (m : Mem) (K : AV → Mem → R) : R :=
  match op with
  | .store s a v => (ev P t a).bind fun a => (ev P t v).bind fun v => (szT P s).bind fun n => (stV m a v n).bind fun m' => K .undef m'
  | .call { callee := .builtin .append, args := ⟨[s, x]⟩, argTypes := ⟨[st, xt]⟩ } =>
    (ev P t s).bind fun s => (ev P t x).bind fun x => (appendOp P st xt s x m).bind fun r => K r.1 r.2
  | .call { callee := .builtin .copy, args := ⟨[d, x]⟩, argTypes := ⟨st :: _⟩ } =>
    (copyElem P st).bind fun n => (ev P t d).bind fun d => (ev P t x).bind fun x => (copyA n d x m).bind fun r => K r.1 r.2
  | .mapUpdate s x k v | .insert s x k v =>
    (ev P t x).bind fun x => (ev P t k).bind fun k => (ev P t v).bind fun v => (mapPut P s x k v m).bind fun m' => K .undef m'
  | .call { callee := .builtin .delete, args := ⟨[x, k]⟩, argTypes := ⟨s :: _⟩ } =>
    (ev P t x).bind fun x => (ev P t k).bind fun k => (mapDel P s x k m).bind fun m' => K .undef m'
  | .call { callee := .builtin .clear, args := ⟨[x]⟩, argTypes := ⟨s :: _⟩ } =>
    (ev P t x).bind fun x => (clearA P s x m).bind fun m' => K .undef m'
  | .call { callee := .value f, args := ⟨xs⟩, .. } =>
    (ev P t f).bind fun fv => (evs P t xs).bind fun as => (callA call fv as m).bind fun r => K r.1 r.2
  | _ => none

noncomputable def aput (t : List AV) (d : Option Tmp) (v : AV) : List AV :=
  match d with
  | some d => setF t d v
  | none => t

/-- Is a guarded operation wanted? (What was skipped yields nothing.) -/
noncomputable def guardA0 (ops : List Oper) (o : Oper) (t : List AV) (yes no : R) : R :=
  match o.guard with
  | none => yes
  | some (j, want) => match (ops[j]?).bind (·.dst) with
    | some d => match t.getD d .undef with
      | .bool b => if b = want then yes else no
      | .tup [] => no
      | _ => none
    | none => none

/-- The same: what the guard is, is then written out; 'sk': what was skipped. -/
noncomputable def guardA (sk : List Tmp) (ops : List Oper) (o : Oper) (t : List AV) (yes no : List AV → R) : R :=
  match o.guard with
  | none => yes t
  | some (j, want) => match (ops[j]?).bind (·.dst) with
    | some d =>
      if sk.contains d && AV.beq (nth t d) (.tup []) then no t else
      match nth t d with
      | .bool true => if want then yes (setF t d (.bool true)) else no (setF t d (.bool true))
      | .bool false => if want then no (setF t d (.bool false)) else yes (setF t d (.bool false))
      | _ => none
    | none => none

theorem set_same {t : List AV} {d : Nat} {v : AV} (h : t.getD d .undef = v) : t.set d v = t := by
  subst h
  apply List.ext_getElem?
  intro i
  rw [List.getElem?_set]
  split
  · rename_i e
    subst e
    split
    · rename_i h; simp [List.getD_eq_getElem?_getD, List.getElem?_eq_getElem h]
    · rename_i h; rw [List.getElem?_eq_none (by omega)]
  · rfl

theorem guardA_same {sk : List Tmp} {ops : List Oper} {o : Oper} {t : List AV} {yes no : List AV → R} {r : AV × Mem} (h : guardA sk ops o t yes no = some r) : guardA0 ops o t (yes t) (no t) = some r := by
  unfold guardA at h
  unfold guardA0
  cases hg : o.guard with
  | none => simp only [hg] at h ⊢; exact h
  | some jw =>
    obtain ⟨j, want⟩ := jw
    simp only [hg, nth_eq, setF_eq] at h ⊢
    cases e : (ops[j]?).bind (·.dst) with
    | none => simp only [e] at h; cases h
    | some d =>
      simp only [e] at h ⊢
      split at h
      · rename_i hs
        simp only [Bool.and_eq_true] at hs
        rw [AV.eq_of_beq hs.2]; exact h
      · cases hv : t.getD d .undef with
        | bool b =>
          simp only [hv] at h ⊢
          cases b <;> cases want <;> simp only [set_same hv] at h <;> simpa using h
        | _ => simp only [hv] at h; cases h

/-- What is skipped, and what is no more. -/
def skDel (sk : List Tmp) (d : Option Tmp) : List Tmp :=
  match d with
  | some d => sk.filter (· != d)
  | none => sk

/-- An operation carried out. -/
noncomputable def opK (call : CallF) (P : Program) (op : Op) (t : List AV) (m : Mem) (K : AV → Mem → R) : R :=
  match cls P op with
  | .p => (pureOp P op t).bind fun v => K v m
  | .r => (readOp P op t m).bind fun v => K v m
  | .a => (allocOp P op t).bind fun ca => K (ca.2 m.next) (m.lay ca.1)
  | .e => effK call P op t m K

/-- A region that does not draw its order. -/
noncomputable def opsK (call : CallF) (P : Program) (all : List Oper) : List Oper → List Tmp → List AV → Mem → (List AV → Mem → R) → R
  | [], _, t, m, K => K t m
  | o :: os, sk, t, m, K =>
    guardA sk all o t
      (fun t => opK call P o.op t m fun v m' => opsK call P all os (skDel sk o.dst) (aput t o.dst v) m' K)
      (fun t => opsK call P all os (o.dst.toList ++ sk) (aput t o.dst (.tup [])) m K)

/-- What has been read, and what has changed memory, in a region that draws its order. -/
structure Seen where
  rs : List (Nat × (Mem → Option AV) × AV)
  es : List (Nat × Mem)

noncomputable def chkR (f : Mem → Option AV) (v : AV) (c : List Nat) : List (Nat × Mem) → R → R
  | [], K => K
  | (j, m) :: es, K => if j ∈ c then (if f m = some v then chkR f v c es K else none) else chkR f v c es K
noncomputable def chkE (m : Mem) (c : List Nat) : List (Nat × (Mem → Option AV) × AV) → R → R
  | [], K => K
  | (j, f, v) :: rs, K => if j ∈ c then (if f m = some v then chkE m c rs K else none) else chkE m c rs K

/-- A region that draws its order, in the text's order: what is read must be the same at each place where it may be read. -/
noncomputable def dopsK (call : CallF) (P : Program) (all : List Oper) : List (List Nat) → List Oper → List Tmp → Nat → Seen → List AV → Mem → (List AV → Mem → R) → R
  | c :: cs, o :: os, sk, i, h, t, m, K =>
    guardA sk all o t
      (fun t => match cls P o.op with
        | .p => (pureOp P o.op t).bind fun v => dopsK call P all cs os (skDel sk o.dst) (i + 1) h (aput t o.dst v) m K
        | .r => (readOp P o.op t m).bind fun v =>
            chkR (readOp P o.op t) v c h.es (dopsK call P all cs os (skDel sk o.dst) (i + 1) ⟨(i, readOp P o.op t, v) :: h.rs, h.es⟩ (aput t o.dst v) m K)
        | .a => (allocOp P o.op t).bind fun ca => dopsK call P all cs os (skDel sk o.dst) (i + 1) h (aput t o.dst (ca.2 m.next)) (m.lay ca.1) K
        | .e => effK call P o.op t m fun v m' =>
            chkE m' c h.rs (dopsK call P all cs os (skDel sk o.dst) (i + 1) ⟨h.rs, (i, m) :: h.es⟩ (aput t o.dst v) m' K))
      (fun t => dopsK call P all cs os (o.dst.toList ++ sk) (i + 1) h (aput t o.dst (.tup [])) m K)
  | _, [], _, _, _, t, m, K => K t m
  | [], _ :: _, _, _, _, _, _, _ => none

inductive AI where
  | code (c : AC)
  | inBlock (id : Nat)
  | inLoop (c : AC)
  | inScope (c : AC)
  | beginRound

def aexit (id : Nat) : List AI → Option (List AI)
  | .inBlock id' :: k => if id' = id then some k else aexit id k
  | _ :: k => aexit id k
  | [] => none

def mask : List Bool → List AV → List AV
  | _, [] => []
  | true :: bs, v :: vs => v :: mask bs vs
  | false :: bs, _ :: vs => .undef :: mask bs vs
  | [], _ :: vs => .undef :: mask [] vs

noncomputable def condA (v : AV) (x y : R) : R :=
  match v with
  | .bool true => x
  | .bool false => y
  | _ => none

/-- A function's results. -/
noncomputable def resA (P : Program) : List ResultVar → List AV → Mem → Option (List AV)
  | [], _, _ => some []
  | .tmp i :: rs, t, m => match resA P rs t m with
    | some vs => some (nth t i :: vs)
    | none => none
  | .cell a ty :: rs, t, m => match loadA P ty (nth t a) m, resA P rs t m with
    | some v, some vs => some (v :: vs)
    | _, _ => none
def tupA : List AV → AV
  | [v] => v
  | [] => .undef
  | vs => .tup vs

structure Env where
  P : Program
  B : FuncId → Option (List ResultVar × Nat × AC)
  H : FuncId → Option (List AV → Mem → R)

/-- What runs: a function, by its results; a round of a loop, by its record. -/
inductive Md where
  | fn (rs : List ResultVar)
  | rd (b : Nat)

/-- The end: of a function, or of a round; 'j': where it jumps to. -/
noncomputable def fin (P : Program) (md : Md) (j : Option Jmp) (t : List AV) (m : Mem) : R :=
  match md with
  | .fn rs => match j with
    | some (.exit _) => none
    | _ => (resA P rs t m).bind fun vs => some (tupA vs, m)
  | .rd b => match m.get b with
    | some (.loop l) => some (.bool j.isNone, m.put b (some (.loop { l with state := if j.isNone then .ready else .done, pending := j })))
    | _ => none
noncomputable def beginA (md : Md) (m : Mem) : Option Mem :=
  match md with
  | .fn _ => none
  | .rd b => match m.get b with
    | some (.loop l) => if l.state = .ready then some (m.put b (some (.loop { l with state := .busy }))) else none
    | _ => none
/-- May a loop over a function begin here? -/
noncomputable def around (md : Md) (m : Mem) : Bool :=
  match md with
  | .fn _ => true
  | .rd b => match m.get b with
    | some (.loop _) => true
    | _ => false
/-- Behind the function that was ranged over: the record goes, and what is pending is done. -/
noncomputable def rangeEnd (n : Nat) (m : Mem) (go : Option Jmp → Mem → R) : R :=
  match m.get n with
  | some (.loop l) => if l.state = .busy then none else go l.pending (m.put n none)
  | _ => none
def pend (j : Option Jmp) (k : List AI) : List AI :=
  match j with
  | none => k
  | some j => .code j.code :: k
noncomputable def rangeK (call : CallF) (md : Md) (fv : AV) (l : LoopA) (m : Mem) (go : Option Jmp → Mem → R) : R :=
  match fv with
  | .fn (.func f) first cap => if around md m then (call (.fn f) (first ++ [.yld m.next] ++ cap) (m.lay (.loop l))).bind fun r => rangeEnd m.next r.2 go else none
  | _ => none

noncomputable def stepK (E : Env) (call : CallF) (md : Md) (k : List AI) (t : List AV) (m : Mem) (κ : List AI → List AV → Mem → R) : R :=
  match k with
  | [] => fin E.P md none t m
  | .inBlock _ :: k => κ k t m
  | .inScope _ :: k => κ k t m
  | .beginRound :: k => (beginA md m).bind fun m => κ k t m
  | .inLoop c :: k => κ (.code c :: .inLoop c :: k) t m
  | .code c :: k =>
    match c with
    | .skip => κ k t m
    | .region _ ops draw chk _ => if draw then dopsK call E.P ops chk ops [] 0 ⟨[], []⟩ t m (fun t m => κ k t m) else opsK call E.P ops ops [] t m (fun t m => κ k t m)
    | .seq a b => κ (.code a :: .code b :: k) t m
    | .cond c x y => (ev E.P t c).bind fun v => condA v (κ (.code x :: k) t m) (κ (.code y :: k) t m)
    | .block id b => κ (.code b :: .inBlock id :: k) t m
    | .loop b => κ (.code b :: .inLoop b :: k) t m
    | .scope b => κ (.code b :: .inScope b :: k) t m
    | .rangeFunc f ps a b => (ev E.P t f).bind fun fv => rangeK call md fv ⟨.ready, none, t, ps, a, b⟩ m fun j m => κ (pend j k) t m
    | .exit id => match aexit id k with
      | some k' => κ k' t m
      | none => fin E.P md (some (.exit id)) t m
    | .ret => fin E.P md (some .ret) t m
    | .pt live c => κ (.code c :: k) (mask live t) m
    | .other _ => none

noncomputable def goF (E : Env) (call : CallF) (md : Md) : Nat → List AI → List AV → Mem → R
  | 0, _, _, _ => none
  | n + 1, k, t, m => stepK E call md k t m (goF E call md n)

noncomputable def bindP (ps : List Tmp) (args : List AV) (t : List AV) : List AV := (ps.zip args).foldl (fun t pa => t.set pa.1 pa.2) t

/-- A round's beginning: what is to be done, and on what. -/
noncomputable def roundK (m : Mem) (b : Nat) (args : List AV) (go : List AI → List AV → R) : R :=
  match m.get b with
  | some (.loop l) => if args.length = l.params.length then go [.code l.assign, .beginRound, .code l.body] (bindP l.params args l.tmps) else none
  | _ => none

noncomputable def runF (E : Env) : Nat → CallF
  | 0, _, _, _ => none
  | n + 1, tg, args, m =>
    match tg with
    | .fn f => match E.H f with
      | some h => h args m
      | none => match E.B f with
        | some (rs, nt, c) => goF E (runF E n) (.fn rs) n [.code c] (args ++ List.replicate (nt - args.length) .undef) m
        | none => none
    | .yl b => roundK m b args fun k t => goF E (runF E n) (.rd b) n k t m

/-- From here to the next marks, in at most so many steps. -/
noncomputable def goC (E : Env) (call : CallF) (md : Md) (κ : List AI → List AV → Mem → R) : Nat → List AI → List AV → Mem → R
  | 0, k, t, m => κ k t m
  | n + 1, k, t, m =>
    match k with
    | .code (.pt live c) :: k => κ (.code c :: k) (mask live t) m
    | .code (.rangeFunc f ps a b) :: k => (ev E.P t f).bind fun fv => rangeK call md fv ⟨.ready, none, t, ps, a, b⟩ m fun j m => κ (pend j k) t m
    | k => stepK E call md k t m (goC E call md κ n)

/-! Less, and limits. -/

def Le {α : Type} (f g : Option α) : Prop := ∀ r, f = some r → g = some r
theorem Le.refl {α : Type} (f : Option α) : Le f f := fun _ h => h
theorem Le.trans {α : Type} {f g h : Option α} (a : Le f g) (b : Le g h) : Le f h := fun r e => b r (a r e)
theorem Le.bind {α β : Type} {f g : Option α} {F G : α → Option β} (h : Le f g) (hF : ∀ x, Le (F x) (G x)) : Le (f.bind F) (g.bind G) := by
  intro r e
  cases hf : f with
  | none => simp [hf] at e
  | some x => rw [h x hf]; rw [hf] at e; exact hF x r e
theorem Le.none {α : Type} (g : Option α) : Le none g := fun _ h => by simp at h

/-- 'f n' is what 'g' is, from some n on, wherever g is something; and never something else. -/
def Lim {α : Type} (f : Nat → Option α) (g : Option α) : Prop := (∀ n, Le (f n) g) ∧ ∀ r, g = some r → ∃ N, ∀ n, N ≤ n → f n = some r
theorem Lim.const {α : Type} (g : Option α) : Lim (fun _ => g) g := ⟨fun _ => .refl g, fun _ h => ⟨0, fun _ _ => h⟩⟩
theorem Lim.bind {α β : Type} {f : Nat → Option α} {g : Option α} {F : Nat → α → Option β} {G : α → Option β} (h : Lim f g) (hF : ∀ x, Lim (fun n => F n x) (G x)) :
    Lim (fun n => (f n).bind (F n)) (g.bind G) := by
  refine ⟨fun n => (h.1 n).bind fun x => (hF x).1 n, ?_⟩
  intro r e
  cases hg : g with
  | none => simp [hg] at e
  | some x =>
    rw [hg] at e
    obtain ⟨N, hN⟩ := h.2 x hg
    obtain ⟨M, hM⟩ := (hF x).2 r e
    refine ⟨max N M, fun n hn => ?_⟩
    show (f n).bind (F n) = some r
    rw [hN n (by omega)]
    exact hM n (by omega)

section
variable {E : Env} {P : Program}

theorem Lim.callA {call : Nat → CallF} {c : CallF} (h : ∀ f a m, Lim (fun n => call n f a m) (c f a m)) (fv : AV) (args : List AV) (m : Mem) :
    Lim (fun n => Abs.callA (call n) fv args m) (Abs.callA c fv args m) := by
  unfold Abs.callA
  split
  · exact h _ _ _
  · exact h _ _ _
  · exact .const _

theorem Lim.effK {call : Nat → CallF} {c : CallF} (h : ∀ f a m, Lim (fun n => call n f a m) (c f a m)) (op : Op) (t : List AV) (m : Mem)
    {K : Nat → AV → Mem → R} {K' : AV → Mem → R} (hK : ∀ v m, Lim (fun n => K n v m) (K' v m)) :
    Lim (fun n => Abs.effK (call n) P op t m (K n)) (Abs.effK c P op t m K') := by
  unfold Abs.effK
  split
  · exact .bind (.const _) fun _ => .bind (.const _) fun _ => .bind (.const _) fun _ => .bind (.const _) fun _ => hK _ _
  · exact .bind (.const _) fun _ => .bind (.const _) fun _ => .bind (.const _) fun _ => hK _ _
  · exact .bind (.const _) fun _ => .bind (.const _) fun _ => .bind (.const _) fun _ => .bind (.const _) fun _ => hK _ _
  · exact .bind (.const _) fun _ => .bind (.const _) fun _ => .bind (.const _) fun _ => .bind (.const _) fun _ => hK _ _
  · exact .bind (.const _) fun _ => .bind (.const _) fun _ => .bind (.const _) fun _ => .bind (.const _) fun _ => hK _ _
  · exact .bind (.const _) fun _ => .bind (.const _) fun _ => .bind (.const _) fun _ => hK _ _
  · exact .bind (.const _) fun _ => .bind (.const _) fun _ => hK _ _
  · exact .bind (.const _) fun _ => .bind (.const _) fun _ => .bind (.callA h _ _ _) fun _ => hK _ _
  · exact .const _

theorem Lim.guardA (sk : List Tmp) (ops : List Oper) (o : Oper) (t : List AV) {y n : Nat → List AV → R} {y' n' : List AV → R} (hy : ∀ t, Lim (y · t) (y' t)) (hn : ∀ t, Lim (n · t) (n' t)) :
    Lim (fun i => Abs.guardA sk ops o t (y i) (n i)) (Abs.guardA sk ops o t y' n') := by
  unfold Abs.guardA
  split
  · exact hy _
  · split
    · split
      · exact hn _
      · split
        · split
          · exact hy _
          · exact hn _
        · split
          · exact hn _
          · exact hy _
        · exact .const _
    · exact .const _

theorem Lim.opK {call : Nat → CallF} {c : CallF} (h : ∀ f a m, Lim (fun n => call n f a m) (c f a m)) (op : Op) (t : List AV) (m : Mem)
    {K : Nat → AV → Mem → R} {K' : AV → Mem → R} (hK : ∀ v m, Lim (fun n => K n v m) (K' v m)) :
    Lim (fun n => Abs.opK (call n) P op t m (K n)) (Abs.opK c P op t m K') := by
  unfold Abs.opK
  split
  · exact .bind (.const _) fun _ => hK _ _
  · exact .bind (.const _) fun _ => hK _ _
  · exact .bind (.const _) fun _ => hK _ _
  · exact .effK h _ _ _ hK

theorem Lim.opsK {call : Nat → CallF} {c : CallF} (h : ∀ f a m, Lim (fun n => call n f a m) (c f a m)) (all : List Oper)
    {K : Nat → List AV → Mem → R} {K' : List AV → Mem → R} (hK : ∀ v m, Lim (fun n => K n v m) (K' v m)) : ∀ (ops : List Oper) (sk : List Tmp) (t : List AV) (m : Mem),
    Lim (fun n => Abs.opsK (call n) P all ops sk t m (K n)) (Abs.opsK c P all ops sk t m K')
  | [], _, _, _ => hK _ _
  | o :: os, sk, t, m => by
    simp only [Abs.opsK]
    exact .guardA _ _ _ _ (fun _ => .opK h _ _ _ fun _ _ => Lim.opsK h all hK os _ _ _) (fun _ => Lim.opsK h all hK os _ _ _)

theorem Lim.chkR (f : Mem → Option AV) (v : AV) (c : List Nat) {K : Nat → R} {K' : R} (hK : Lim K K') : ∀ es, Lim (fun n => Abs.chkR f v c es (K n)) (Abs.chkR f v c es K')
  | [] => hK
  | (j, m) :: es => by
    simp only [Abs.chkR]
    split
    · split
      · exact Lim.chkR f v c hK es
      · exact .const _
    · exact Lim.chkR f v c hK es
theorem Lim.chkE (m : Mem) (c : List Nat) {K : Nat → R} {K' : R} (hK : Lim K K') : ∀ rs, Lim (fun n => Abs.chkE m c rs (K n)) (Abs.chkE m c rs K')
  | [] => hK
  | (j, f, v) :: rs => by
    simp only [Abs.chkE]
    split
    · split
      · exact Lim.chkE m c hK rs
      · exact .const _
    · exact Lim.chkE m c hK rs

theorem Lim.dopsK {call : Nat → CallF} {c : CallF} (h : ∀ f a m, Lim (fun n => call n f a m) (c f a m)) (all : List Oper)
    {K : Nat → List AV → Mem → R} {K' : List AV → Mem → R} (hK : ∀ v m, Lim (fun n => K n v m) (K' v m)) : ∀ (ops : List Oper) (cs : List (List Nat)) (sk : List Tmp) (i : Nat) (s : Seen) (t : List AV) (m : Mem),
    Lim (fun n => Abs.dopsK (call n) P all cs ops sk i s t m (K n)) (Abs.dopsK c P all cs ops sk i s t m K')
  | [], cs, _, _, _, _, _ => by cases cs <;> (simp only [Abs.dopsK]; exact hK _ _)
  | o :: os, [], _, _, _, _, _ => by simp only [Abs.dopsK]; exact .const _
  | o :: os, c :: cs, sk, i, s, t, m => by
    simp only [Abs.dopsK]
    refine .guardA _ _ _ _ (fun t => ?_) (fun _ => Lim.dopsK h all hK os cs _ _ _ _ _)
    split
    · exact .bind (.const _) fun _ => Lim.dopsK h all hK os cs _ _ _ _ _
    · exact .bind (.const _) fun _ => .chkR _ _ _ (Lim.dopsK h all hK os cs _ _ _ _ _) _
    · exact .bind (.const _) fun _ => Lim.dopsK h all hK os cs _ _ _ _ _
    · exact .effK h _ _ _ fun _ _ => .chkE _ _ (Lim.dopsK h all hK os cs _ _ _ _ _) _

theorem Lim.rangeEnd (b : Nat) (m : Mem) {go : Nat → Option Jmp → Mem → R} {go' : Option Jmp → Mem → R} (hg : ∀ j m, Lim (fun n => go n j m) (go' j m)) : Lim (fun n => Abs.rangeEnd b m (go n)) (Abs.rangeEnd b m go') := by
  unfold Abs.rangeEnd
  split
  · split
    · exact .const _
    · exact hg _ _
  · exact .const _
theorem Lim.rangeK {call : Nat → CallF} {c : CallF} (h : ∀ f a m, Lim (fun n => call n f a m) (c f a m)) (md : Md) (fv : AV) (l : LoopA) (m : Mem) {go : Nat → Option Jmp → Mem → R} {go' : Option Jmp → Mem → R} (hg : ∀ j m, Lim (fun n => go n j m) (go' j m)) :
    Lim (fun n => Abs.rangeK (call n) md fv l m (go n)) (Abs.rangeK c md fv l m go') := by
  unfold Abs.rangeK
  split
  · split
    · exact .bind (h _ _ _) fun _ => .rangeEnd _ _ hg
    · exact .const _
  · exact .const _
theorem Lim.roundK {m : Mem} {b : Nat} {args : List AV} {go : Nat → List AI → List AV → R} {go' : List AI → List AV → R} (hg : ∀ k t, Lim (fun n => go n k t) (go' k t)) : Lim (fun n => Abs.roundK m b args (go n)) (Abs.roundK m b args go') := by
  unfold Abs.roundK
  split
  · split
    · exact hg _ _
    · exact .const _
  · exact .const _

theorem Lim.stepK {call : Nat → CallF} {c : CallF} (h : ∀ f a m, Lim (fun n => call n f a m) (c f a m)) (md : Md) (k : List AI) (t : List AV) (m : Mem)
    {κ : Nat → List AI → List AV → Mem → R} {κ' : List AI → List AV → Mem → R} (hκ : ∀ k t m, Lim (fun n => κ n k t m) (κ' k t m)) :
    Lim (fun n => Abs.stepK E (call n) md k t m (κ n)) (Abs.stepK E c md k t m κ') := by
  unfold Abs.stepK
  split
  · exact .const _
  · exact hκ _ _ _
  · exact hκ _ _ _
  · exact .bind (.const _) fun _ => hκ _ _ _
  · exact hκ _ _ _
  · split
    · exact hκ _ _ _
    · split
      · exact .dopsK h _ (fun _ _ => hκ _ _ _) _ _ _ _ _ _ _
      · exact .opsK h _ (fun _ _ => hκ _ _ _) _ _ _ _
    · exact hκ _ _ _
    · refine .bind (.const _) fun v => ?_
      unfold condA
      split
      · exact hκ _ _ _
      · exact hκ _ _ _
      · exact .const _
    · exact hκ _ _ _
    · exact hκ _ _ _
    · exact hκ _ _ _
    · exact .bind (.const _) fun _ => .rangeK h _ _ _ _ fun _ _ => hκ _ _ _
    · split
      · exact hκ _ _ _
      · exact .const _
    · exact .const _
    · exact hκ _ _ _
    · exact .const _

theorem Le.goF_run : ∀ (n : Nat), (∀ f a m, Le (runF E n f a m) (runF E (n + 1) f a m)) ∧ ∀ md k t m, Le (goF E (runF E n) md n k t m) (goF E (runF E (n + 1)) md (n + 1) k t m) := by
  -- one step is less with less: by the limit's first half over the two-valued chain
  have step : ∀ {call c : CallF} {κ κ' : List AI → List AV → Mem → R}, (∀ f a m, Le (call f a m) (c f a m)) → (∀ k t m, Le (κ k t m) (κ' k t m)) →
      ∀ md k t m, Le (stepK E call md k t m κ) (stepK E c md k t m κ') := by
    intro call c κ κ' h hκ md k t m
    have hl : Lim (fun n => stepK E (if n = 0 then call else c) md k t m (if n = 0 then κ else κ')) (stepK E c md k t m κ') := by
      refine Lim.stepK (call := fun n => if n = 0 then call else c) (κ := fun n => if n = 0 then κ else κ') ?_ md k t m ?_
      · intro f a m
        refine ⟨fun n => ?_, fun r hr => ⟨1, fun n hn => ?_⟩⟩
        · by_cases e : n = 0
          · simp only [e, if_true]; exact h _ _ _
          · simp only [e, if_false]; exact .refl _
        · simp only [show n ≠ 0 by omega, if_false]; exact hr
      · intro k t m
        refine ⟨fun n => ?_, fun r hr => ⟨1, fun n hn => ?_⟩⟩
        · by_cases e : n = 0
          · simp only [e, if_true]; exact hκ _ _ _
          · simp only [e, if_false]; exact .refl _
        · simp only [show n ≠ 0 by omega, if_false]; exact hr
    exact hl.1 0
  intro n
  have go : ∀ (n : Nat) {call c : CallF}, (∀ f a m, Le (call f a m) (c f a m)) → ∀ md j k t m, n ≤ j → Le (goF E call md n k t m) (goF E c md j k t m) := by
    intro n
    induction n with
    | zero => intro _ _ _ _ _ _ _ _ _; exact .none _
    | succ n ih =>
      intro call c h md j k t m hj
      obtain ⟨j, rfl⟩ : ∃ i, j = i + 1 := ⟨j - 1, by omega⟩
      exact step h (fun k t m => ih h md j k t m (by omega)) md k t m
  induction n with
  | zero => exact ⟨fun _ _ _ => .none _, fun _ _ _ _ => .none _⟩
  | succ n ih =>
    have h1 : ∀ f a m, Le (runF E (n + 1) f a m) (runF E (n + 1 + 1) f a m) := by
      intro f a m
      cases f with
      | fn f =>
        simp only [runF]
        cases E.H f with
        | some h => exact .refl _
        | none =>
          cases E.B f with
          | none => exact .refl _
          | some b => exact go n ih.1 _ _ _ _ _ (by omega)
      | yl b =>
        simp only [runF]
        unfold Abs.roundK
        split
        · split
          · exact go n ih.1 _ _ _ _ _ (by omega)
          · exact .none _
        · exact .none _
    exact ⟨h1, fun md k t m => go (n + 1) h1 md _ k t m (by omega)⟩

open Classical in
/-- What a function answers, with rounds enough. -/
noncomputable def run (E : Env) : CallF := fun f a m => if h : ∃ r n, runF E n f a m = some r then some h.choose else none
open Classical in
noncomputable def go (E : Env) (md : Md) (k : List AI) (t : List AV) (m : Mem) : R := if h : ∃ r n, goF E (runF E n) md n k t m = some r then some h.choose else none

theorem lim_of_chain {α : Type} {f : Nat → Option α} (h : ∀ n, Le (f n) (f (n + 1))) (g : Option α) (hg : ∀ r, g = some r → ∃ n, f n = some r) (hg' : ∀ n r, f n = some r → (∃ r', g = some r')) : Lim f g := by
  have up : ∀ n j, n ≤ j → Le (f n) (f j) := by
    intro n j hj
    induction j with
    | zero => have : n = 0 := by omega
              subst this; exact .refl _
    | succ j ih =>
      by_cases e : n = j + 1
      · subst e; exact .refl _
      · exact (ih (by omega)).trans (h j)
  refine ⟨fun n r hr => ?_, fun r hr => ?_⟩
  · obtain ⟨r', hr'⟩ := hg' n r hr
    obtain ⟨n', hn'⟩ := hg r' hr'
    have a := up n (max n n') (by omega) r hr
    have b := up n' (max n n') (by omega) r' hn'
    rw [a] at b; cases b; exact hr'
  · obtain ⟨n, hn⟩ := hg r hr
    exact ⟨n, fun j hj => up n j hj r hn⟩

theorem lim_run (f : Tg) (a : List AV) (m : Mem) : Lim (fun n => runF E n f a m) (run E f a m) := by
  refine lim_of_chain (fun n => (Le.goF_run n).1 f a m) _ ?_ ?_
  · intro r hr
    unfold run at hr
    split at hr
    · rename_i h
      cases hr; exact h.choose_spec
    · simp at hr
  · intro n r hr
    unfold run
    rw [dif_pos ⟨r, n, hr⟩]
    exact ⟨_, rfl⟩

theorem lim_go (md : Md) (k : List AI) (t : List AV) (m : Mem) : Lim (fun n => goF E (runF E n) md n k t m) (go E md k t m) := by
  refine lim_of_chain (fun n => (Le.goF_run n).2 md k t m) _ ?_ ?_
  · intro r hr
    unfold go at hr
    split at hr
    · rename_i h
      cases hr; exact h.choose_spec
    · simp at hr
  · intro n r hr
    unfold go
    rw [dif_pos ⟨r, n, hr⟩]
    exact ⟨_, rfl⟩

theorem Lim.unique {α : Type} {f : Nat → Option α} {g g' : Option α} (h : Lim f g) (h' : Lim f g') : g = g' := by
  cases hg : g with
  | some r => obtain ⟨N, hN⟩ := h.2 r hg; exact (h'.1 N r (hN N (Nat.le_refl N))).symm
  | none =>
    cases hg' : g' with
    | none => rfl
    | some r => obtain ⟨N, hN⟩ := h'.2 r hg'; have := h.1 N r (hN N (Nat.le_refl N)); rw [hg] at this; simp at this

theorem Lim.shift {α : Type} {f : Nat → Option α} {g : Option α} (h : Lim f g) : Lim (fun n => f (n + 1)) g :=
  ⟨fun n => h.1 (n + 1), fun r hr => let ⟨N, hN⟩ := h.2 r hr; ⟨N, fun n hn => hN (n + 1) (by omega)⟩⟩

/-- One step. -/
theorem go_step (md : Md) (k : List AI) (t : List AV) (m : Mem) : go E md k t m = stepK E (run E) md k t m (go E md) := by
  have h1 : Lim (fun n => goF E (runF E n) md (n + 1) k t m) (stepK E (run E) md k t m (go E md)) :=
    Lim.stepK (call := fun n => runF E n) (κ := fun n => goF E (runF E n) md n) lim_run md k t m (lim_go md)
  -- the diagonal with one round more
  have h2 : Lim (fun n => goF E (runF E n) md (n + 1) k t m) (go E md k t m) := by
    have hg := lim_go (E := E) md k t m
    have up : ∀ n, Le (goF E (runF E n) md (n + 1) k t m) (goF E (runF E (n + 1)) md (n + 1) k t m) := by
      intro n
      have hl : Lim (fun i => goF E (if i = 0 then runF E n else runF E (n + 1)) md (n + 1) k t m) (goF E (runF E (n + 1)) md (n + 1) k t m) := by
        have : ∀ (j : Nat) k t m, Lim (fun i => goF E (if i = 0 then runF E n else runF E (n + 1)) md j k t m) (goF E (runF E (n + 1)) md j k t m) := by
          intro j
          induction j with
          | zero => intro _ _ _; exact .const _
          | succ j ih =>
            intro k t m
            refine Lim.stepK (call := fun i => if i = 0 then runF E n else runF E (n + 1)) (κ := fun i => goF E (if i = 0 then runF E n else runF E (n + 1)) md j) ?_ md k t m ih
            intro f a m
            refine ⟨fun i => ?_, fun r hr => ⟨1, fun i hi => ?_⟩⟩
            · by_cases e : i = 0
              · simp only [e, if_true]; exact (Le.goF_run n).1 _ _ _
              · simp only [e, if_false]; exact .refl _
            · simp only [show i ≠ 0 by omega, if_false]; exact hr
        exact this _ _ _ _
      exact hl.1 0
    have down : ∀ n, Le (goF E (runF E n) md n k t m) (goF E (runF E n) md (n + 1) k t m) := by
      intro n
      have : ∀ (j : Nat) (call : CallF) k t m, Le (goF E call md j k t m) (goF E call md (j + 1) k t m) := by
        intro j call
        induction j with
        | zero => intro _ _ _; exact .none _
        | succ j ih =>
          intro k t m
          have hl : Lim (fun i => stepK E call md k t m (if i = 0 then goF E call md j else goF E call md (j + 1))) (stepK E call md k t m (goF E call md (j + 1))) := by
            refine Lim.stepK (call := fun _ => call) (κ := fun i => if i = 0 then goF E call md j else goF E call md (j + 1)) (fun _ _ _ => .const _) md k t m ?_
            intro k t m
            refine ⟨fun i => ?_, fun r hr => ⟨1, fun i hi => ?_⟩⟩
            · by_cases e : i = 0
              · simp only [e, if_true]; exact ih _ _ _
              · simp only [e, if_false]; exact .refl _
            · simp only [show i ≠ 0 by omega, if_false]; exact hr
          exact hl.1 0
      exact this n _ k t m
    refine ⟨fun n => (up n).trans (hg.1 (n + 1)), fun r hr => ?_⟩
    obtain ⟨N, hN⟩ := hg.2 r hr
    exact ⟨N, fun n hn => down n r (hN n hn)⟩
  exact h2.unique h1

/-- To the next marks. -/
theorem go_unfold (md : Md) : ∀ (j : Nat) (k : List AI) (t : List AV) (m : Mem), go E md k t m = goC E (run E) md (go E md) j k t m := by
  intro j
  induction j with
  | zero => intro _ _ _; rfl
  | succ j ih =>
    intro k t m
    rw [go_step]
    have hκ : go E md = goC E (run E) md (go E md) j := by funext k t m; exact ih k t m
    unfold goC
    split
    · rfl
    · rfl
    · exact congrArg (fun κ => stepK E (run E) md _ t m κ) hκ

/-- A function is its body. -/
theorem run_body {f : FuncId} {rs : List ResultVar} {nt : Nat} {c : AC} (hH : E.H f = none) (hB : E.B f = some (rs, nt, c)) (args : List AV) (m : Mem) :
    run E (.fn f) args m = go E (.fn rs) [.code c] (args ++ List.replicate (nt - args.length) .undef) m := by
  have h1 : Lim (fun n => runF E (n + 1) (.fn f) args m) (run E (.fn f) args m) := (lim_run (E := E) (.fn f) args m).shift
  have h2 : (fun n => runF E (n + 1) (.fn f) args m) = fun n => goF E (runF E n) (.fn rs) n [.code c] (args ++ List.replicate (nt - args.length) .undef) m := by
    funext n; simp only [runF, hH, hB]
  rw [h2] at h1
  exact h1.unique (lim_go _ _ _ _)

/-- A round is what its loop's record says. -/
theorem run_round (b : Nat) (args : List AV) (m : Mem) : run E (.yl b) args m = roundK m b args fun k t => go E (.rd b) k t m := by
  have h1 : Lim (fun n => runF E (n + 1) (.yl b) args m) (run E (.yl b) args m) := (lim_run (E := E) (.yl b) args m).shift
  have h2 : (fun n => runF E (n + 1) (.yl b) args m) = fun n => roundK m b args fun k t => goF E (runF E n) (.rd b) n k t m := by
    funext n; simp only [runF]
  rw [h2] at h1
  exact h1.unique (Lim.roundK fun _ _ => lim_go _ _ _ _)

theorem run_hook {f : FuncId} {h : List AV → Mem → R} (hH : E.H f = some h) (args : List AV) (m : Mem) : run E (.fn f) args m = h args m := by
  have h1 : Lim (fun n => runF E (n + 1) (.fn f) args m) (run E (.fn f) args m) := (lim_run (E := E) (.fn f) args m).shift
  have h2 : (fun n => runF E (n + 1) (.fn f) args m) = fun _ => h args m := by funext n; simp only [runF, hH]
  rw [h2] at h1
  exact h1.unique (.const _)

theorem run_fuel {f : Tg} {args : List AV} {m : Mem} {r : AV × Mem} (h : run E f args m = some r) : ∃ n, runF E n f args m = some r :=
  let ⟨N, hN⟩ := (lim_run (E := E) f args m).2 r h
  ⟨N, hN N (Nat.le_refl N)⟩
theorem run_of_fuel {f : Tg} {args : List AV} {m : Mem} {r : AV × Mem} (n : Nat) (h : runF E n f args m = some r) : run E f args m = some r :=
  (lim_run (E := E) f args m).1 n r h
end
end Go.Abs
