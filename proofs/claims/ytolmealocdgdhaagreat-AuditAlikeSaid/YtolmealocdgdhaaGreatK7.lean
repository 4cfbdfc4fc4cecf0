/- Texts of one claim, put together. -/
import Derived.Test.YtolmealocdgdhaaGreatK6
import Derived.ProofKit
import Derived.Deep.Slices
import Derived.DataReads
import Derived.Lib.Overlaps
import Derived.Laws.Externs
import Derived.KernelRfl
section
namespace Go.Abs
open Go Go.RowKit Go.ChangeShapes

section
variable {P : Program} {H : Type} {enc : TypeId × Value → H}

theorem trodAll_stays (hl : laidOutB P = true) {W W' : World} (hb : Below W.heap.size W W') : ∀ {ts : List TypeId} {vs : List Value} {ds : List (DataW H)} {ps : List MemPlace},
    (∀ t ∈ ts, P.readableRec t = true ∧ t < P.types.size) → DataW.TrodAll enc P W 0 (fun _ => true) true ts vs ds ps → (∀ x ∈ ps, x.block < W.heap.size) →
    DataW.TrodAll enc P W' 0 (fun b => decide (b < W.heap.size)) true ts vs ds ps
  | [], [], [], _, _, h, _ => h
  | [], _ :: _, _, _, _, h, _ => by simp [DataW.TrodAll] at h
  | [], [], _ :: _, _, _, h, _ => by simp [DataW.TrodAll] at h
  | _ :: _, [], _, _, _, h, _ => by simp [DataW.TrodAll] at h
  | _ :: _, _ :: _, [], _, _, h, _ => by simp [DataW.TrodAll] at h
  | t :: ts, v :: vs, d :: ds, ps, ht, h, hlt => by
    obtain ⟨p, q, h1, h2, rfl⟩ := h
    exact ⟨p, q, Below.trod hl (ht t (by simp)).1 (ht t (by simp)).2 h1 hb (fun x hx => hlt x (by simp [hx])),
      trodAll_stays hl hb (fun t' h' => ht t' (by simp [h'])) h2 (fun x hx => hlt x (by simp [hx])), rfl⟩

theorem law_post (hl : laidOutB P = true) {fn : Func} (hts : ∀ t ∈ fn.params.toList, P.readableRec t = true ∧ t < P.types.size) {tb : TypeId} (hrt : fn.resultTypes = #[tb]) (htb : P.underlying tb = some .bool) {s : ChangeSpec} (hv : s.vars = [])
    {apart : Bool} {W W' : World} {args : Array Value} {ds gs : List (DataW H)} {before : List MemPlace} (hW : DataW.Whole enc P fn.params.toList s.vars apart W args.toList ds gs before)
    (hfn : s.fn H (ds ++ gs) = { results := [.lit (.bool true)], args := ds }) (hb : Below W.heap.size W W') : s.post enc P fn apart true false false W args (.bool true) W' := by
  have hlt : ∀ x ∈ before, x.block < W.heap.size := fun x hx => hW.lt x hx
  obtain ⟨p, q, hA, hV, e, hz, hn⟩ := id hW
  rw [hv] at hV
  obtain ⟨rfl, rfl⟩ := trodVars_none hV
  simp only [List.append_nil] at e hfn
  subst e
  refine ⟨ds, [], before, [], before, [], by simpa using hW, ?_, ?_, ?_, hb.frame _, fun h => by cases h⟩
  · simp only [List.append_nil, hfn, hrt]
    exact trodAll_mk1 (shut_bool htb true)
  · simp only [List.append_nil, hfn]
    exact trodAll_stays hl hb hts hA hlt
  · simp only [List.append_nil, hfn, hv]
    rfl
end
end Go.Abs
end
section
namespace Go.Abs
open Go

def marks : AC → List AI → List (List AI)
  | .pt _ c, k => (.code c :: k) :: marks c k
  | .seq a b, k => marks a (.code b :: k) ++ marks b k
  | .cond _ x y, k => marks x k ++ marks y k
  | .block id b, k => marks b (.inBlock id :: k)
  | .loop b, k => marks b (.inLoop b :: k)
  | .scope b, k => marks b (.inScope b :: k)
  | .rangeFunc _ _ a b, _ => marks a [.beginRound, .code b] ++ marks b []
  | _, _ => []
def loops : AC → List (List Tmp × AC × AC)
  | .pt _ c => loops c
  | .seq a b => loops a ++ loops b
  | .cond _ x y => loops x ++ loops y
  | .block _ b => loops b
  | .loop b => loops b
  | .scope b => loops b
  | .rangeFunc _ ps a b => (ps, a, b) :: (loops a ++ loops b)
  | _ => []

def lmarks : AC → List AI → List (List AI)
  | .pt _ c, k => lmarks c k
  | .seq a b, k => lmarks a (.code b :: k) ++ lmarks b k
  | .cond _ x y, k => lmarks x k ++ lmarks y k
  | .block id b, k => lmarks b (.inBlock id :: k)
  | .loop b, k => lmarks b (.inLoop b :: k)
  | .scope b, k => lmarks b (.inScope b :: k)
  | .rangeFunc _ _ a b, k => k :: (lmarks a [.beginRound, .code b] ++ lmarks b [])
  | _, _ => []

def codeOf (E : Env) (f : FuncId) : AC :=
  match E.B f with
  | some (_, _, c) => c
  | none => .skip
def rsOf (E : Env) (f : FuncId) : List ResultVar :=
  match E.B f with
  | some (rs, _, _) => rs
  | none => []
def ntOf (E : Env) (f : FuncId) : Nat :=
  match E.B f with
  | some (_, n, _) => n
  | none => 0
def kAt (E : Env) (f i : Nat) : List AI := ((marks (codeOf E f) [])[i]?).getD []
def loopOf (E : Env) (f i : Nat) (t : List AV) : LoopA :=
  match (loops (codeOf E f))[i]? with
  | some (ps, a, b) => ⟨.ready, none, t, ps, a, b⟩
  | none => ⟨.ready, none, t, [], .skip, .skip⟩

def kLoop (E : Env) (f i : Nat) : List AI := ((lmarks (codeOf E f) [])[i]?).getD []
def isDf : List ResultVar → Bool
  | [.cell 0 0, .cell 0 0, .cell 0 0] => true
  | _ => false
def mdR (rs : List ResultVar) : Md :=
  match isDf rs with
  | true => .df
  | false => .fn rs
noncomputable def afterAt (E : Env) (f i : Nat) (j : Option Jmp) (t : List AV) (m : Mem) : R := go E (mdR (rsOf E f)) (pend j (kLoop E f i)) t m
noncomputable def afterRd (E : Env) (f i : Nat) (l : Nat) (j : Option Jmp) (t : List AV) (m : Mem) : R := go E (.rd l) (pend j (kLoop E f i)) t m
noncomputable def rdFin (b : Nat) (j : Option Jmp) (m : Mem) : R :=
  match m.get b with
  | some (.loop l) => some (.bool j.isNone, m.put b (some (.loop { l with state := if j.isNone then .ready else .done, pending := j })))
  | _ => none
noncomputable def rdBegin (b : Nat) (m : Mem) : Option Mem :=
  match m.get b with
  | some (.loop l) => if l.state = .ready then some (m.put b (some (.loop { l with state := .busy }))) else none
  | _ => none

noncomputable def goAt (E : Env) (f i : Nat) (t : List AV) (m : Mem) : R := go E (mdR (rsOf E f)) (kAt E f i) t m
noncomputable def roundAt (E : Env) (f i : Nat) (l : Nat) (t : List AV) (m : Mem) : R := go E (.rd l) (kAt E f i) t m

theorem goAt_eq {E : Env} {f i : Nat} (n : Nat) {t : List AV} {m : Mem} {r : R} (h : goC E (run E) (mdR (rsOf E f)) (go E (mdR (rsOf E f))) n (kAt E f i) t m = r) : goAt E f i t m = r :=
  (go_unfold _ n _ _ _).trans h
theorem roundAt_eq {E : Env} {f i l : Nat} (n : Nat) {t : List AV} {m : Mem} {r : R} (h : goC E (run E) (.rd l) (go E (.rd l)) n (kAt E f i) t m = r) : roundAt E f i l t m = r :=
  (go_unfold _ n _ _ _).trans h
theorem afterAt_eq {E : Env} {f i : Nat} {j : Option Jmp} (n : Nat) {t : List AV} {m : Mem} {r : R} (h : goC E (run E) (mdR (rsOf E f)) (go E (mdR (rsOf E f))) n (pend j (kLoop E f i)) t m = r) : afterAt E f i j t m = r :=
  (go_unfold _ n _ _ _).trans h
theorem afterRd_eq {E : Env} {f i l : Nat} {j : Option Jmp} (n : Nat) {t : List AV} {m : Mem} {r : R} (h : goC E (run E) (.rd l) (go E (.rd l)) n (pend j (kLoop E f i)) t m = r) : afterRd E f i l j t m = r :=
  (go_unfold _ n _ _ _).trans h
theorem run_eq {E : Env} {f : Nat} (n : Nat) {args : List AV} {m : Mem} {r : R} (hH : E.H f = none) (hB : (E.B f).isSome = true)
    (h : goC E (run E) (.fn (rsOf E f)) (go E (.fn (rsOf E f))) n [.code (codeOf E f)] (args ++ List.replicate (ntOf E f - args.length) .undef) m = r) : run E (.fn f) args m = r := by
  cases e : E.B f with
  | none => simp [e] at hB
  | some b =>
    obtain ⟨rs, nt, c⟩ := b
    rw [run_body hH e]
    simp only [rsOf, codeOf, ntOf, e] at h
    exact (go_unfold _ n _ _ _).trans h
theorem round_eq {E : Env} {f i b : Nat} {args t : List AV} {m : Mem} {st : LoopState} {pe : Option Jmp} (hm : m.get b = some (.loop { loopOf E f i t with state := st, pending := pe })) (hl : args.length = (loopOf E f i t).params.length) (n : Nat) {r : R}
    (h : goC E (run E) (.rd b) (go E (.rd b)) n [.code (loopOf E f i t).assign, .beginRound, .code (loopOf E f i t).body] (bindP (loopOf E f i t).params args t) m = r) : run E (.yl b) args m = r := by
  have ht : (loopOf E f i t).tmps = t := by unfold loopOf; split <;> rfl
  rw [run_round, roundK, hm]
  simp only
  rw [if_pos hl, ht]
  exact (go_unfold _ n _ _ _).trans h

def ifV (v : AV) (x y : R) : R :=
  match v with
  | .bool true => x
  | .bool false => y
  | _ => none

def boxA (x : AV) : Option (Blk × (Nat → AV)) := ((some x).bind AV.cells).map fun cs => (.cells cs false, fun b => .ptr (some ⟨b, 0⟩))
def bsA (n len : Nat) (zs : List AV) (ps : List (Nat × AV)) : Option (Blk × (Nat → AV)) :=
  (some ps).bind fun ps => (fillA (fun i => some (i * n, n)) (List.replicate len zs).flatten ps).map fun cs => (.cells cs false, fun b => .sl (some ⟨b, 0⟩) n len len true)
def msA (n w : Nat) (zs : List AV) (l c : AV) : Option (Blk × (Nat → AV)) :=
  match l, c with
  | .int .i64 l, .int .i64 c =>
    if 0 ≤ l ∧ l ≤ c ∧ c < 9223372036854775808 ∧ c.toNat * w ≤ maxBytes ∧ zs.length = n then
      some (.cells (List.replicate c.toNat zs).flatten false, fun b => .sl (some ⟨b, 0⟩) n l.toNat c.toNat true) else none
  | _, _ => none
def s2bA (x : AV) : Option (Blk × (Nat → AV)) :=
  match x with
  | .str s => some (.cells (s.map fun c => .int .u8 c.toNat) true, fun b => .sl (some ⟨b, 0⟩) 1 s.length s.length false)
  | _ => none
end Go.Abs
end
section
namespace Go.Abs
open Go

def Fr (m m' : Mem) (S : List Nat) : Prop := m.next ≤ m'.next ∧ ∀ c, c < m.next → c ∉ S → m'.get c = m.get c
theorem Fr.refl (m : Mem) : Fr m m [] := ⟨Nat.le_refl _, fun _ _ _ => rfl⟩
theorem Fr.mono {m m' : Mem} {S T : List Nat} (h : Fr m m' S) (hs : ∀ c, c ∈ S → c < m.next → c ∈ T) : Fr m m' T :=
  ⟨h.1, fun c hc hn => h.2 c hc fun hm => hn (hs c hm hc)⟩
theorem Fr.trans {m m' m'' : Mem} {S S' T : List Nat} (h : Fr m m' S) (h' : Fr m' m'' S') (hs : ∀ c, c ∈ S → c < m.next → c ∈ T) (hs' : ∀ c, c ∈ S' → c < m.next → c ∈ T) : Fr m m'' T :=
  ⟨Nat.le_trans h.1 h'.1, fun c hc hn => (h'.2 c (Nat.lt_of_lt_of_le hc h.1) fun hm => hn (hs' c hm hc)).trans (h.2 c hc fun hm => hn (hs c hm hc))⟩
theorem Fr.get {m m' : Mem} {S : List Nat} (h : Fr m m' S) {c : Nat} {v : Blk} (hc : m.get c = some v) (hn : c ∉ S) : m'.get c = some v := by
  rw [h.2 c (Mem.get_lt hc) hn]; exact hc
theorem Fr.alloc (m : Mem) (cs : List AV) : Fr m (m.alloc cs) [] := ⟨Nat.le_succ _, fun c hc _ => by rw [Mem.get_lay, if_neg (by omega)]⟩
theorem Fr.put (m : Mem) (b : Nat) (v : Option Blk) : Fr m (m.put b v) [b] := ⟨Nat.le_refl _, fun c _ hn => by rw [Mem.get_put, if_neg]; intro h; exact hn (by simp [h.1])⟩

def Sl (m : Mem) (s : AV) (l : List AV) : Prop :=
  (∃ sz ex, s = .sl none sz 0 0 ex ∧ l = []) ∨
  ∃ a sz cap ex cs ro, s = .sl (some a) sz l.length cap ex ∧ (1 = sz ∨ ex = true) ∧ l.length ≤ cap ∧ m.get a.b = some (.cells cs ro) ∧ a.o + l.length ≤ cs.length ∧ (cs.drop a.o).take l.length = l

def Row (m : Mem) (s : AV) (l : List AV) (rb : Option Nat) : Prop :=
  ((∃ sz ex, s = .sl none sz 0 0 ex) ∧ l = [] ∧ rb = none) ∨
  ∃ b sp ex, rb = some b ∧ s = .sl (some ⟨b, 0⟩) 1 l.length (l.length + sp.length) ex ∧ m.get b = some (.cells (l ++ sp) false)

theorem Row.sl {m : Mem} {s : AV} {l : List AV} {rb : Option Nat} (h : Row m s l rb) : Sl m s l := by
  rcases h with ⟨⟨sz, ex, rfl⟩, rfl, _⟩ | ⟨b, sp, ex, _, rfl, h⟩
  · exact .inl ⟨_, _, rfl, rfl⟩
  · exact .inr ⟨_, _, _, _, _, _, rfl, .inl rfl, by omega, h, by simp, by simp⟩

theorem Row.frame {m m' : Mem} {s : AV} {l : List AV} {rb : Option Nat} {S : List Nat} (h : Row m s l rb) (hf : Fr m m' S) (hd : ∀ b, rb = some b → b ∉ S) : Row m' s l rb := by
  rcases h with h | ⟨b, sp, ex, h1, h2, h3⟩
  · exact .inl h
  · exact .inr ⟨b, sp, ex, h1, h2, hf.get h3 (hd b h1)⟩
theorem Row.lt {m : Mem} {s : AV} {l : List AV} {b : Nat} (h : Row m s l (some b)) : b < m.next := by
  rcases h with ⟨_, _, h⟩ | ⟨b', sp, ex, h1, h2, h3⟩
  · cases h
  · cases h1; exact Mem.get_lt h3

theorem Sl.len {m : Mem} {s : AV} {l : List AV} (h : Sl m s l) : ∃ a sz cap ex, s = .sl a sz l.length cap ex := by
  rcases h with ⟨sz, ex, rfl, rfl⟩ | ⟨a, sz, cap, ex, cs, ro, rfl, _⟩
  · exact ⟨_, _, _, _, rfl⟩
  · exact ⟨_, _, _, _, rfl⟩

theorem Sl.src {m : Mem} {x : AV} {l : List AV} (h : Sl m x l) : srcA 1 x m = some (l.length, l) := by
  rcases h with ⟨sz, ex, rfl, rfl⟩ | ⟨a, sz, cap, ex, cs, ro, rfl, hs, h0, h1, h2, h3⟩
  · rfl
  · simp [srcA, ldCells, h1, h2, h3, show sz = 1 ∨ ex = true from hs.imp Eq.symm id]

theorem Sl.frame {m m' : Mem} {s : AV} {l : List AV} {S : List Nat} (h : Sl m s l) (hf : Fr m m' S) (hd : ∀ a sz n c ex, s = .sl (some a) sz n c ex → a.b ∉ S) : Sl m' s l := by
  rcases h with h | ⟨a, sz, cap, ex, cs, ro, h0, hs, h1, h2, h3, h4⟩
  · exact .inl h
  · exact .inr ⟨a, sz, cap, ex, cs, ro, h0, hs, h1, hf.get h2 (hd _ _ _ _ _ h0), h3, h4⟩

theorem drop_take_get {cs l : List AV} {o i : Nat} (h : (cs.drop o).take l.length = l) (hi : i < l.length) : cs[o + i]? = l[i]? := by
  have h2 : ((cs.drop o).take l.length)[i]? = l[i]? := by rw [h]
  rw [List.getElem?_take, if_pos hi, List.getElem?_drop] at h2
  exact h2

theorem Sl.elem {m : Mem} {s : AV} {l : List AV} (h : Sl m s l) {i : Nat} (hi : i < l.length) :
    ∃ a sz cap ex, s = .sl (some a) sz l.length cap ex ∧ (1 = sz ∨ ex = true) ∧ ixA 1 l.length a (i : Int) = some (.ptr (some ⟨a.b, a.o + i⟩)) ∧ ld1 m (.ptr (some ⟨a.b, a.o + i⟩)) = l[i]? := by
  rcases h with ⟨sz, ex, rfl, rfl⟩ | ⟨a, sz, cap, ex, cs, ro, h0, hs, h1, h2, h3, h4⟩
  · simp at hi
  · exact ⟨a, sz, cap, ex, h0, hs, by simp [ixA, hi], by simp only [ld1, h2]; exact drop_take_get h4 hi⟩

theorem append_row {m : Mem} {s x : AV} {l new : List AV} {rb : Option Nat} {w : Nat} (hr : Row m s l rb) (hx : Sl m x new) (hone : new.all AV.one = true)
    (hw : (l.length + new.length) * w ≤ maxBytes) :
    ∃ s' m' rb', appendA 1 w s x m = some (s', m') ∧ Row m' s' (l ++ new) rb' ∧ Fr m m' rb.toList ∧ (rb' = rb ∨ rb' = some m.next) := by
  unfold appendA
  rw [hx.src]
  simp only [hone, not_true_eq_false, if_false]
  rcases hr with ⟨⟨sz0, ex0, rfl⟩, rfl, rfl⟩ | ⟨b, sp, ex, rfl, rfl, hb⟩
  · simp only
    by_cases h0 : new.length = 0
    · rw [if_pos h0]
      have : new = [] := List.length_eq_zero_iff.1 h0
      subst this
      exact ⟨_, _, none, rfl, .inl ⟨⟨_, _, rfl⟩, rfl, rfl⟩, (Fr.refl m), .inl rfl⟩
    · rw [if_neg h0, if_pos (by simpa using hw)]
      refine ⟨_, _, some m.next, rfl, .inr ⟨m.next, [], false, rfl, by simp, by simp [Mem.get_lay]⟩, Fr.alloc _ _, .inr rfl⟩
  · simp only [true_or, if_true, Nat.mul_one, Nat.zero_add]
    by_cases h1 : l.length + new.length ≤ l.length + sp.length
    · rw [if_pos h1]
      have hst : stCells m ⟨b, l.length⟩ new = some (m.put b (some (.cells (l ++ new ++ sp.drop new.length) false))) := by
        simp only [stCells, hb]
        rw [if_pos (by simp; omega)]
        congr 4
        rw [List.take_left, List.drop_append]
        congr 1
        rw [List.drop_eq_nil_of_le (by omega), List.nil_append]
        congr 1; omega
      rw [hst]
      refine ⟨_, _, some b, rfl, .inr ⟨b, sp.drop new.length, ex, rfl, ?_, ?_⟩, (Fr.put m b _), .inl rfl⟩
      · congr 1 <;> simp; omega
      · rw [Mem.get_put, if_pos ⟨rfl, Mem.get_lt hb⟩]
    · rw [if_neg h1, if_pos hw]
      have hl : ldCells m ⟨b, 0⟩ l.length = some l := by simp [ldCells, hb]
      rw [hl]
      simp only
      cases ex with
      | true =>
        simp only [if_true]
        refine ⟨_, _, some m.next, rfl, .inr ⟨m.next, [], false, rfl, by simp, by simp [Mem.get_lay]⟩, (Fr.alloc _ _).mono (by simp), .inr rfl⟩
      | false =>
        simp only [Bool.false_eq_true, if_false, hb]
        refine ⟨_, _, some m.next, rfl, .inr ⟨m.next, [], false, rfl, by simp, by simp [Mem.get_lay]⟩, ?_, .inr rfl⟩
        exact (Fr.put m b none).trans (Fr.alloc _ _) (by simp) (by simp)

theorem remove_row {m : Mem} {s : AV} {l : List AV} {rb : Option Nat} {w k : Nat} (hr : Row m s l rb) (hk : k < l.length) (hone : l.all AV.one = true) :
    ∃ a cap ex s' m', s = .sl (some a) 1 l.length cap ex ∧ k ≤ cap ∧ l.length ≤ cap ∧ rb = some a.b ∧
      appendA 1 w (.sl (some ⟨a.b, a.o⟩) 1 k cap ex) (.sl (some ⟨a.b, a.o + (k + 1)⟩) 1 (l.length - (k + 1)) (cap - (k + 1)) ex) m = some (s', m') ∧
      Row m' s' (l.eraseIdx k) rb ∧ Fr m m' rb.toList ∧ m'.next = m.next := by
  rcases hr with ⟨⟨sz0, ex0, rfl⟩, rfl, rfl⟩ | ⟨b, sp, ex, rfl, rfl, hb⟩
  · simp at hk
  · have hx : Sl m (.sl (some ⟨b, 0 + (k + 1)⟩) 1 (l.drop (k + 1)).length (l.length + sp.length - (k + 1)) ex) (l.drop (k + 1)) := by
      refine .inr ⟨_, _, _, _, _, _, rfl, .inl rfl, by simp; omega, hb, by simp; omega, ?_⟩
      simp only [Nat.zero_add]
      rw [List.drop_append_of_le_length (by omega), List.take_left]
    have hlen : l.length - (k + 1) = (l.drop (k + 1)).length := by simp
    rw [hlen]
    refine ⟨⟨b, 0⟩, _, ex, .sl (some ⟨b, 0⟩) 1 (k + (l.drop (k + 1)).length) (l.length + sp.length) ex, m.put b (some (.cells (l.take k ++ l.drop (k + 1) ++ (l ++ sp).drop (k + (l.drop (k + 1)).length)) false)), rfl, by omega, by omega, rfl, ?_, ?_, (Fr.put m b _), rfl⟩
    · unfold appendA
      rw [hx.src]
      have : (l.drop (k + 1)).all AV.one = true := by
        rw [List.all_eq_true] at hone ⊢
        exact fun v hv => hone v (List.mem_of_mem_drop hv)
      simp only [this, not_true_eq_false, if_false, true_or, if_true, Nat.mul_one, Nat.zero_add]
      rw [if_pos (by simp; omega)]
      simp only [stCells, hb]
      rw [if_pos (by simp; omega)]
      simp only [Option.map_some]
      rw [List.take_append_of_le_length (by omega)]
    · have he : l.eraseIdx k = l.take k ++ l.drop (k + 1) := List.eraseIdx_eq_take_drop_succ _ _
      have hl : (l.eraseIdx k).length = k + (l.drop (k + 1)).length := by rw [he]; simp; omega
      refine .inr ⟨b, (l ++ sp).drop (k + (l.drop (k + 1)).length), ex, rfl, ?_, ?_⟩
      · rw [hl]; congr 1; simp; omega
      · rw [Mem.get_put, if_pos ⟨rfl, Mem.get_lt hb⟩, he]
end Go.Abs
end
section
namespace Go.Abs
open Go

section
variable {P : Program} {W : World} {H : Type} {enc : TypeId × Value → H} {t e : TypeId} {v : Value} {base : Nat}

theorem arg_int {k : IntKind} (ht : P.underlying t = some (.int k)) (h : Value.okWide P W .any base t v) : ∃ n, v = .int k n ∧ k.min ≤ n ∧ n ≤ k.max := by
  unfold Value.okWide at h
  simp only [ht] at h
  unfold Cell.okWide at h
  simp only [ht] at h
  unfold Cell.ok at h
  simp only [ht] at h
  cases v <;> simp only at h <;> first | exact h.elim | skip
  obtain ⟨rfl, h⟩ := h
  exact ⟨_, rfl, h⟩

theorem trod_int {k : IntKind} {b : Nat} {sp : Nat → Bool} {held : Bool} {m : Nat} {V : Value} {x : DataW H × List MemPlace} (ht : P.underlying t = some (.int k))
    (h : DataW.trod enc P W b sp held m t [V] = some x) : ∃ n, V = .int k n ∧ k.min ≤ n ∧ n ≤ k.max := by
  cases m with
  | zero => simp [DataW.trod] at h
  | succ m =>
    simp only [DataW.trod, ht] at h
    cases V <;> simp only at h <;> first | (cases h; done) | skip
    split at h
    · rename_i h1
      obtain ⟨rfl, h1⟩ := h1
      simp only [Lit.wf, Bool.and_eq_true, decide_eq_true_eq] at h1
      exact ⟨_, rfl, h1⟩
    · cases h
theorem trod_bool {b : Nat} {sp : Nat → Bool} {held : Bool} {m : Nat} {V : Value} {x : DataW H × List MemPlace} (ht : P.underlying t = some .bool)
    (h : DataW.trod enc P W b sp held m t [V] = some x) : ∃ n, V = .bool n := by
  cases m with
  | zero => simp [DataW.trod] at h
  | succ m =>
    simp only [DataW.trod, ht] at h
    cases V <;> simp only at h <;> first | (cases h; done) | skip
    exact ⟨_, rfl⟩
theorem mapM_mem {α β : Type} {f : α → Option β} : ∀ {l : List α} {r : List β}, l.mapM f = some r → ∀ x ∈ l, ∃ y, f x = some y := by
  intro l r h x hx
  obtain ⟨i, hi, rfl⟩ := List.mem_iff_getElem.1 hx
  have h1 := mapM_some_get h i l[i] (by simp)
  have h2 := mapM_some_length h
  rw [List.getElem?_eq_getElem (by omega)] at h1
  exact ⟨_, h1⟩
theorem trod_struct {fs : Array Field} {b : Nat} {sp : Nat → Bool} {held : Bool} {m : Nat} {cs : List Value} {x : DataW H × List MemPlace} (ht : P.underlying t = some (.struct fs))
    (h : DataW.trod enc P W b sp held m t cs = some x) :
    ∃ m', cs.length = P.cellsOf t ∧ ∀ f ∈ fs.toList, ∃ y, DataW.trod enc P W b sp held m' f.type ((cs.drop f.offset).take (P.cellsOf f.type)) = some y := by
  cases m with
  | zero => simp [DataW.trod] at h
  | succ m =>
    simp only [DataW.trod, ht] at h
    split at h
    · rename_i h1
      obtain ⟨r, h2, _⟩ := Option.map_eq_some_iff.1 h
      exact ⟨m, h1, fun f hf => mapM_mem h2 f hf⟩
    · cases h

theorem add_flat {a : Addr} (h : a.spot = none) (n : Nat) : a.add n = ⟨a.block, a.off + n, none⟩ := by
  unfold Addr.add
  split
  · rename_i e; subst e; cases a; simp_all
  · rfl

theorem arg_slice {d : DataW H} {p : List MemPlace} (ht : P.underlying t = some (.slice e)) (h : Value.okWide P W .any base t v) (hr : DataW.Trod enc P W 0 (fun _ => true) true t v d p) :
    (∃ ex, absV W v = .sl none 0 0 0 ex) ∨
    ∃ (a : AA) (len cap : Nat) (cs : List Value), absV W v = .sl (some a) 0 len cap true ∧ len ≤ cap ∧ (absM W).get a.b = some (.cells (cs.map (absP W)) true) ∧
      ∃ m, ∀ i, i < cap → ((cs.drop (a.o + i * P.cellsOf e)).take (P.cellsOf e)).length = P.cellsOf e ∧
        ∃ y, DataW.trod enc P W 0 (fun _ => true) true m e ((cs.drop (a.o + i * P.cellsOf e)).take (P.cellsOf e)) = some y := by
  unfold Value.okWide at h
  simp only [ht] at h
  unfold Cell.okWide at h
  simp only [ht] at h
  unfold Cell.ok at h
  simp only [ht] at h
  obtain ⟨fuel, hr⟩ := hr
  cases v <;> first | exact False.elim h | skip
  rename_i a len cap
  cases a with
  | none =>
    left
    cases len with
    | zero => cases cap with
      | zero => exact ⟨_, rfl⟩
      | succ n => exact False.elim h
    | succ n => exact False.elim h
  | some a =>
    simp only at h
    obtain ⟨h1, h2, _, h3, row, n, h4, h5⟩ := h
    by_cases h0 : cap = 0
    · subst h0
      have : len = 0 := by omega
      subst this
      exact .inl ⟨_, rfl⟩
    right
    unfold World.shape? at h4
    split at h4
    · rename_i c el fr hc
      rcases Go.Deep.open_slice ht hr with ⟨h6, _⟩ | ⟨a', len', cap', mm, n', D, Pl, h6, _, _, _, h7, _, h8⟩
      · simp [Value.cells] at h6
      · simp only [Value.cells, List.cons.injEq, and_true] at h6
        injection h6 with e1 e2 e3
        cases e1; subst e2; subst e3
        refine ⟨⟨a.block, a.off⟩, len, cap, c.toList, ?_, h1, ?_, n', fun i hi => ?_⟩
        · simp [absV, absP, h0, h3, isCells, hc, h1]
        · rw [absM_get, absBlk, hc]
        · obtain ⟨cs', h9, h10⟩ := h8 i (by rw [h7]; simpa using hi)
          obtain ⟨_, h11, h12⟩ := World.cells?_some h9
          have : (c.toList.drop (a.off + i * P.cellsOf e)).take (P.cellsOf e) = cs' := by
            apply List.ext_getElem?
            intro j
            rw [List.getElem?_take, List.getElem?_drop]
            split
            · rename_i hj
              rw [← h12 j hj]
              rw [add_flat h3, add_flat rfl]
              simp [World.cell?, hc]
            · rw [List.getElem?_eq_none (by omega)]
          simp only
          rw [this]
          exact ⟨h11, _, h10⟩
    · cases h4

theorem arg_ints {k : IntKind} {d : DataW H} {p : List MemPlace} (ht : P.underlying t = some (.slice e)) (he : P.underlying e = some (.int k)) (hn : P.cellsOf e = 1) (h : Value.okWide P W .any base t v)
    (hr : DataW.Trod enc P W 0 (fun _ => true) true t v d p) : ∃ xs : List Int, (Sl (absM W) (absV W v) (xs.map (AV.int k)) ∨ xs = [] ∧ ∃ a cap, absV W v = .sl (some a) 0 0 cap true) ∧ ∀ x ∈ xs, k.min ≤ x ∧ x ≤ k.max := by
  rcases arg_slice ht h hr with ⟨ex, h⟩ | ⟨a, len, cap, cs, h1, h2, h3, m, h4⟩
  · exact ⟨[], .inl (.inl ⟨_, _, h, rfl⟩), by simp⟩
  · rw [hn] at h4
    have h5 : ∀ i, i < len → ∃ n : Int, cs[a.o + i]? = some (.int k n) ∧ k.min ≤ n ∧ n ≤ k.max := by
      intro i hi
      obtain ⟨h6, y, h7⟩ := h4 i (by omega)
      rw [Nat.mul_one] at h6 h7
      have h8 : a.o + i < cs.length := by simp at h6; omega
      have h9 : (cs.drop (a.o + i)).take 1 = [cs[a.o + i]] := by rw [List.drop_eq_getElem_cons h8]; rfl
      rw [h9] at h7
      obtain ⟨n, h10, h11⟩ := trod_int he h7
      exact ⟨n, by rw [List.getElem?_eq_getElem h8, h10], h11⟩
    obtain ⟨f, hf⟩ := Go.Deep.choose_lt h5
    by_cases h0 : len = 0
    · subst h0; exact ⟨[], .inr ⟨rfl, a, cap, h1⟩, by simp⟩
    refine ⟨(List.range len).map f, .inl <| .inr ⟨a, 0, cap, true, cs.map (absP W), true, ?_, .inr rfl, ?_, h3, ?_, ?_⟩, ?_⟩
    · simpa using h1
    · simpa using h2
    · simp only [List.length_map, List.length_range]
      have := (hf (len - 1) (by omega)).1
      have := (List.getElem?_eq_some_iff.1 this).1
      omega
    · apply List.ext_getElem?
      intro i
      simp only [List.length_map, List.length_range]
      rw [List.getElem?_take, List.getElem?_drop]
      split
      · rename_i hi
        simp [List.getElem?_map, (hf i hi).1, List.getElem?_range hi, absP]
      · rename_i hi
        rw [List.getElem?_eq_none (by simp; omega)]
    · intro x hx
      obtain ⟨i, hi, rfl⟩ := List.mem_map.1 hx
      exact (hf i (List.mem_range.1 hi)).2
end
theorem argAll_cons {P : Program} {W : World} {H : Type} {enc : TypeId × Value → H} {b : Nat} {sp : Nat → Bool} {held : Bool} {t : TypeId} {ts : List TypeId} {vs : List Value} {ds : List (DataW H)} {ps : List MemPlace}
    (h : DataW.TrodAll enc P W b sp held (t :: ts) vs ds ps) : ∃ v vs' d ds' p p', vs = v :: vs' ∧ ds = d :: ds' ∧ DataW.Trod enc P W b sp held t v d p ∧ DataW.TrodAll enc P W b sp held ts vs' ds' p' := by
  match vs, ds, h with
  | v :: vs, d :: ds, ⟨p, q, h1, h2, _⟩ => exact ⟨v, vs, d, ds, p, q, rfl, rfl, h1, h2⟩
theorem argAll_nil {P : Program} {W : World} {H : Type} {enc : TypeId × Value → H} {b : Nat} {sp : Nat → Bool} {held : Bool} {vs : List Value} {ds : List (DataW H)} {ps : List MemPlace}
    (h : DataW.TrodAll enc P W b sp held [] vs ds ps) : vs = [] ∧ ds = [] := by
  match vs, ds, h with
  | [], [], _ => exact ⟨rfl, rfl⟩
end Go.Abs
end
section
namespace Go.Abs
open Go

section
variable {P : Program}

theorem extern_ok {f : FuncId} {fn : Func} {e : Array Value → Sem Value} (hf : P.funcs[f]? = some fn) (hname : (fn.name == "runtime.NumGoroutine") = false) (hb : fn.body.isNone = true) (hn : Extern.findNext fn = none) (he : Extern.find fn = some e)
    {args : List AV} {m : Mem} {r : AV} {m' : Mem} (h0 : m.next ≤ m'.next) (h : ∀ (p : Phi) (w : World) (cargs : List Value), MR P p m w → GP P ≤ m.next → Free p m.next m'.next → VRs p args cargs →
      ∃ cv w' p', (e ⟨cargs⟩).run P w = .ok cv w' ∧ VR p' r cv ∧ Sim P p m w p' m' w') : FnOk P (.fn f) args m r m' := by
  refine ⟨h0, fun p w cargs hm hG hf2 hv => .inr ?_⟩
  obtain ⟨cv, w', p', h1, h2, h3⟩ := h p w cargs hm hG hf2 hv
  refine ⟨cv, w', p', ?_, h2, h3⟩
  rw [run_callFunc_extern hf hname hb hn he, h1]
  rfl

def add64H (args : List AV) (m : Mem) : R :=
  match args with
  | [.int .u64 x, .int .u64 y, .int .u64 c] =>
    if 0 ≤ x ∧ 0 ≤ y ∧ 0 ≤ c ∧ c ≤ 1 then some (.tup [.int .u64 ((x + y + c) % 18446744073709551616), .int .u64 ((x + y + c) / 18446744073709551616)], m) else none
  | _ => none
theorem add64_ok {f : FuncId} {fn : Func} (hf : P.funcs[f]? = some fn) (hname : (fn.name == "runtime.NumGoroutine") = false) (hb : fn.body.isNone = true) (hn : Extern.findNext fn = none) (he : Extern.find fn = some add64Entry)
    (args : List AV) (m : Mem) (r : AV) (m' : Mem) (h : add64H args m = some (r, m')) : FnOk P (.fn f) args m r m' := by
  unfold add64H at h
  split at h
  · rename_i x y c
    split at h
    · rename_i hc
      cases h
      refine extern_ok hf hname hb hn he (Nat.le_refl _) fun p w cargs hm hG hf2 hv => ?_
      simp only [VRs, VR] at hv
      obtain ⟨_, _, rfl, rfl, _, _, rfl, rfl, _, _, rfl, rfl, rfl⟩ := hv
      refine ⟨_, w, p, run_add64 x y c hc.1 hc.2.1 hc.2.2.1 hc.2.2.2 w, ?_, Sim.refl hm⟩
      simp only [VR, VRs]
      exact ⟨_, rfl, _, _, rfl, rfl, _, _, rfl, rfl, rfl⟩
    · cases h
  · cases h

def sub64Entry : Array Value → Sem Value := fun args => do
  let (x, y, b) ← Extern.MathBitsCarry.three "Sub64" args
  pure (Extern.MathBitsCarry.pair ((x + Extern.MathBitsCarry.m64 - y - b) % Extern.MathBitsCarry.m64) (if x < y + b then 1 else 0))
theorem run_sub64 (x y c : Int) (hx : 0 ≤ x) (hy : 0 ≤ y) (hy2 : y < 18446744073709551616) (hc0 : 0 ≤ c) (hc : c ≤ 1) (w : World) :
    (sub64Entry #[.int .u64 x, .int .u64 y, .int .u64 c]).run P w =
      .ok (.tuple #[.int .u64 ((x - y - c) % 18446744073709551616), .int .u64 (if x < y + c then 1 else 0)]) w := by
  have key : ∀ k : Nat, k ≤ 1 → (sub64Entry #[.int .u64 x, .int .u64 y, .int .u64 (k : Int)]).run P w =
      .ok (Extern.MathBitsCarry.pair ((x.toNat + Extern.MathBitsCarry.m64 - y.toNat - k) % Extern.MathBitsCarry.m64) (if x.toNat < y.toNat + k then 1 else 0)) w := by
    intro k hk
    have : k = 0 ∨ k = 1 := by omega
    rcases this with rfl | rfl <;> rfl
  obtain ⟨k, rfl⟩ := Int.eq_ofNat_of_zero_le hc0
  rw [key k (by omega)]
  obtain ⟨X, rfl⟩ := Int.eq_ofNat_of_zero_le hx
  obtain ⟨Y, rfl⟩ := Int.eq_ofNat_of_zero_le hy
  simp only [Extern.MathBitsCarry.pair, Extern.MathBitsCarry.m64, Int.toNat_natCast]
  have h1 : Int.ofNat ((X + 2 ^ 64 - Y - k) % 2 ^ 64) = ((X : Int) - (Y : Int) - (k : Int)) % 18446744073709551616 := by
    simp only [Int.ofNat_eq_natCast, Int.natCast_emod]
    omega
  have h2 : Int.ofNat (if X < Y + k then 1 else 0) = if (X : Int) < (Y : Int) + (k : Int) then 1 else 0 := by
    by_cases h : X < Y + k
    · rw [if_pos h, if_pos (by omega)]; rfl
    · rw [if_neg h, if_neg (by omega)]; rfl
  rw [h1, h2]
def sub64H (args : List AV) (m : Mem) : R :=
  match args with
  | [.int .u64 x, .int .u64 y, .int .u64 c] =>
    if 0 ≤ x ∧ 0 ≤ y ∧ y < 18446744073709551616 ∧ 0 ≤ c ∧ c ≤ 1 then some (.tup [.int .u64 ((x - y - c) % 18446744073709551616), .int .u64 (if x < y + c then 1 else 0)], m) else none
  | _ => none
theorem sub64_ok {f : FuncId} {fn : Func} (hf : P.funcs[f]? = some fn) (hname : (fn.name == "runtime.NumGoroutine") = false) (hb : fn.body.isNone = true) (hn : Extern.findNext fn = none) (he : Extern.find fn = some sub64Entry)
    (args : List AV) (m : Mem) (r : AV) (m' : Mem) (h : sub64H args m = some (r, m')) : FnOk P (.fn f) args m r m' := by
  unfold sub64H at h
  split at h
  · rename_i x y c
    split at h
    · rename_i hc
      cases h
      refine extern_ok hf hname hb hn he (Nat.le_refl _) fun p w cargs hm hG hf2 hv => ?_
      simp only [VRs, VR] at hv
      obtain ⟨_, _, rfl, rfl, _, _, rfl, rfl, _, _, rfl, rfl, rfl⟩ := hv
      refine ⟨_, w, p, run_sub64 x y c hc.1 hc.2.1 hc.2.2.1 hc.2.2.2.1 hc.2.2.2.2 w, ?_, Sim.refl hm⟩
      simp only [VR, VRs]
      exact ⟨_, rfl, _, _, rfl, rfl, _, _, rfl, rfl, rfl⟩
    · cases h
  · cases h

noncomputable def overlapsH (args : List AV) (m : Mem) : R :=
  match args with
  | [.sl (some a) _ _ _ _, .sl (some b) _ _ _ _] =>
    if a.b = b.b then none else
    match m.get a.b, m.get b.b with
    | some (.cells _ false), some (.cells (_ :: _) _) => some (.bool false, m)
    | _, _ => none
  | _ => none
theorem overlaps_ok {f : FuncId} {fn : Func} {st tr e : TypeId} {sz : Nat} (hf : P.funcs[f]? = some fn) (hname : (fn.name == "runtime.NumGoroutine") = false) (hb : fn.body.isNone = true) (hn : Extern.findNext fn = none)
    (he : Extern.find fn = some (Extern.SlicesOverlaps.overlaps #[st, st] #[tr])) (ht : P.underlying st = some (.slice e)) (hsz : szT P e = some sz)
    (args : List AV) (m : Mem) (r : AV) (m' : Mem) (h : overlapsH args m = some (r, m')) : FnOk P (.fn f) args m r m' := by
  unfold overlapsH at h
  split at h
  · rename_i a sa la ca xa b sb lb cb xb
    split at h
    · cases h
    · rename_i hne
      split at h
      · rename_i cs d ds ro ha hbb
        cases h
        refine extern_ok hf hname hb hn he (Nat.le_refl _) fun p w cargs hm hG hf2 hv => ?_
        simp only [VRs, VR, SR] at hv
        obtain ⟨_, _, rfl, ⟨ci, off, cap, h1, rfl, _⟩, _, _, rfl, ⟨ci2, off2, cap2, h2, rfl, _⟩, rfl⟩ := hv
        obtain ⟨arr, el, fr, g1, g2, g3, _⟩ := hm.live _ _ _ _ ha h1
        obtain ⟨arr2, el2, fr2, q1, q2, _, q4⟩ := hm.live _ _ _ _ hbb h2
        have g3 := g3 rfl
        have hc : ci.c ≠ ci2.c := by
          intro e
          rcases hm.inj a.b ci b.b ci2 (by rw [ha]; rfl) h1 h2 e with e' | ⟨_, e'⟩
          · exact hne e'
          · rw [hbb] at e'; cases e'
        have hk : arr2.size ≠ 0 := by
          obtain ⟨v, hv, _⟩ := q4 0 d rfl
          have := (Array.getElem?_eq_some_iff.1 hv).1
          omega
        refine ⟨.bool false, w, p, ?_, by simp [VR], Sim.refl hm⟩
        refine Lib.run_overlaps_apart (P := P) w st tr e ht sz (fun w => run_size hsz w) ⟨ci.c, off, none⟩ ⟨ci2.c, off2, none⟩ la cap lb cap2 hc el el2 arr.size arr2.size ?_ ?_ hk ?_ ?_
        · simp [World.shape?, g1]
        · simp [World.shape?, q1]
        · simp only [World.frozen?, g1]
          have := g3 off
          simp only [Bool.and_eq_false_iff, decide_eq_false_iff_not]
          by_cases h : fr.1 ≤ off
          · exact .inr fun h' => this ⟨h, h'⟩
          · exact .inl h
        · simp only [World.frozen?, g1]
          have := g3 arr.size
          simp only [Bool.and_eq_false_iff, decide_eq_false_iff_not]
          by_cases h : fr.1 ≤ arr.size
          · exact .inr fun h' => this ⟨h, h'⟩
          · exact .inl h
      · cases h
  · cases h
end
end Go.Abs
end
section
namespace Go.Abs
open Go

section
variable {P : Program}

theorem MR.congr {p : Phi} {m m2 : Mem} {w : World} (h : MR P p m w) (hn : m.next = m2.next) (hg : ∀ b, m.get b = m2.get b) : MR P p m2 w where
  has := fun b v ci h1 h2 => h.has b v ci (by rw [hg]; exact h1) h2
  inj := fun b ci b2 ci2 h1 h2 h3 h4 => by rw [← hg] at h1 ⊢; rw [← hn]; exact h.inj b ci b2 ci2 h1 h2 h3 h4
  bnd := h.bnd
  glob := h.glob
theorem Sim.congr {p p' : Phi} {m m1 m2 : Mem} {w w' : World} (h : Sim P p m w p' m1 w') (hn : m1.next = m2.next) (hg : ∀ b, m1.get b = m2.get b) : Sim P p m w p' m2 w' where
  le := h.le
  out := fun b hb => h.out b (by rw [hn]; exact hb)
  next := by rw [← hn]; exact h.next
  rel := h.rel.congr hn hg
  keepA := fun b h1 h2 => by rw [← hg]; exact h.keepA b h1 h2
  dead := fun b h1 h2 => by rw [← hg]; exact h.dead b h1 h2
  keepC := h.keepC
  fresh := fun b ci h1 h2 h3 => h.fresh b ci h1 (by rw [hn]; exact h2) h3
  ro := fun b cs ci h1 h2 => by rw [← hg]; exact h.ro b cs ci h1 h2
  size := h.size
  os := h.os
  output := h.output
  tape := h.tape

theorem Sim.widen {p : Phi} {m : Mem} {w : World} (h : MR P p m w) {b : Nat} {cs : List AV} {ci : CI} (hb : m.get b = some (.cells cs false)) (hp : p b = some ci) :
    cs.length ≤ ci.n - ci.d ∧ Sim P p m w p (m.put b (some (.cells (cs ++ List.replicate (ci.n - ci.d - cs.length) .undef) false))) w := by
  obtain ⟨arr, el, fr, h1, h2, h3, h4⟩ := h.live b cs false ci hb hp
  have hl : cs.length ≤ ci.n - ci.d := by
    by_cases h0 : cs.length = 0
    · omega
    · obtain ⟨v, hv, _⟩ := h4 (cs.length - 1) (cs[cs.length - 1]'(by omega)) (List.getElem?_eq_getElem (by omega))
      have := (Array.getElem?_eq_some_iff.1 hv).1
      omega
  refine ⟨hl, Sim.turn h hb hp h1 h2 (h3 rfl) (fun i a hi => ?_) (fun _ _ => rfl) rfl rfl rfl rfl⟩
  by_cases hi2 : i < cs.length
  · rw [List.getElem?_append_left hi2] at hi
    exact h4 i a hi
  · rw [List.getElem?_append_right (by omega), List.getElem?_replicate] at hi
    split at hi
    · rename_i hlt
      cases hi
      have : ci.d + i < arr.size := by omega
      exact ⟨arr[ci.d + i], Array.getElem?_eq_getElem this, by simp [VR]⟩
    · cases hi

noncomputable def insH (P : Program) (st : TypeId) (args : List AV) (m : Mem) : R :=
  match P.underlying st with
  | some (.slice e) => (szT P e).bind fun sz => (bytesT P e).bind fun w => (zeroA P e).bind fun zs =>
    match args with
    | [s, .int .i64 i, .sl (some x) sx lx cx ex] => (srcA sz (.sl (some x) sx lx cx ex) m).bind fun kn =>
      if 0 < kn.1 ∧ 0 ≤ i ∧ kn.2.all AV.one = true then
        match s with
        | .sl none _ 0 0 _ => if i = 0 then appendA sz w s (.sl (some x) sx lx cx ex) m else none
        | .sl (some a) s' len cap ex' =>
          if i = len then (if s' = sz ∨ ex' = true then appendA sz w s (.sl (some x) sx lx cx ex) m else none)
          else if i < len ∧ s' = sz ∧ ex' = false ∧ x.b ≠ a.b ∧ 0 < sz ∧ 0 < w ∧ zs.length = sz ∧ (len + kn.1) * w ≤ maxBytes ∧ len ≤ cap then
            match m.get x.b, m.get a.b with
            | some (.cells _ false), some (.cells _ false) => (ldCells m a (len * sz)).bind fun old =>
              if old.all AV.one = true then
                some (.sl (some ⟨m.next, 0⟩) sz (len + kn.1) (len + kn.1) false, (m.put a.b none).alloc (old.take (i.toNat * sz) ++ kn.2 ++ old.drop (i.toNat * sz)))
              else none
            | _, _ => none
          else none
        | _ => none
      else none
    | _ => none
  | _ => none

structure InsText (E : Env) (f : FuncId) (st : TypeId) (sz w : Nat) (zs : List AV) : Prop where
  fin : ∀ (s x : AV) (_n k : Nat) (new : List AV) (sa : Option AA) (sz0 len cap : Nat) (ex : Bool) (xa : AA) (sx cx : Nat) (exx : Bool) (m : Mem) (r : AV × Mem), s = .sl sa sz0 len cap ex → x = .sl (some xa) sx k cx exx → srcA sz x m = some (k, new) → 0 < k → new.all AV.one = true →
    ((∃ a, sa = some a ∧ (sz0 = sz ∨ ex = true)) ∨ sa = none ∧ len = 0 ∧ cap = 0) → appendA sz w s x m = some r → run E (.fn f) [s, .int .i64 len, x] m = some r
  room : ∀ (a : AA) (len cap i k : Nat) (xa : AA) (sx cx : Nat) (exx : Bool) (cs old new : List AV) (m : Mem), m.get a.b = some (.cells cs false) → a.o + cap * sz ≤ cs.length → (cs.drop a.o).take (len * sz) = old → old.all AV.one = true → (∃ ds, m.get xa.b = some (.cells ds false)) → xa.b ≠ a.b →
    srcA sz (.sl (some xa) sx k cx exx) m = some (k, new) → new.all AV.one = true → 0 < k → 0 < sz → 0 < w → zs.length = sz → i < len → (len + k) * w ≤ maxBytes → len + k ≤ cap →
    ∃ m2, run E (.fn f) [.sl (some a) sz len cap true, .int .i64 i, .sl (some xa) sx k cx exx] m = some (.sl (some a) sz (len + k) cap true, m2) ∧ m2.next = m.next ∧ (∀ b, b ≠ a.b → m2.get b = m.get b) ∧
      m2.get a.b = some (.cells (cs.take (a.o + i * sz) ++ new ++ old.drop (i * sz) ++ cs.drop (a.o + (len + k) * sz)) false)
  grow : ∀ (a : AA) (len cap i k : Nat) (xa : AA) (sx cx : Nat) (exx : Bool) (cs old new : List AV) (m : Mem), m.get a.b = some (.cells cs false) → a.o + cap * sz ≤ cs.length → (cs.drop a.o).take (len * sz) = old → old.all AV.one = true → (∃ ds, m.get xa.b = some (.cells ds false)) → xa.b ≠ a.b →
    srcA sz (.sl (some xa) sx k cx exx) m = some (k, new) → new.all AV.one = true → 0 < k → 0 < sz → 0 < w → zs.length = sz → i < len → (len + k) * w ≤ maxBytes → len ≤ cap → cap < len + k →
    ∃ m2, run E (.fn f) [.sl (some a) sz len cap true, .int .i64 i, .sl (some xa) sx k cx exx] m = some (.sl (some ⟨m.next, 0⟩) sz (len + k) (len + k) false, m2) ∧ m2.next = m.next + 1 ∧ (∀ b, b ≠ m.next → m2.get b = m.get b) ∧
      m2.get m.next = some (.cells (old.take (i * sz) ++ new ++ old.drop (i * sz)) false)

theorem srcA_len {sz k : Nat} {x : AA} {sx lx cx : Nat} {ex : Bool} {m : Mem} {new : List AV} (h : srcA sz (.sl (some x) sx lx cx ex) m = some (k, new)) : k = lx := by
  unfold srcA at h
  simp only at h
  split at h
  · obtain ⟨cs, _, e⟩ := Option.map_eq_some_iff.1 h
    cases e; rfl
  · cases h
theorem srcA_put {sz : Nat} {x : AA} {sx lx cx : Nat} {ex : Bool} {m : Mem} {b : Nat} {v : Option Blk} (h : x.b ≠ b) : srcA sz (.sl (some x) sx lx cx ex) (m.put b v) = srcA sz (.sl (some x) sx lx cx ex) m := by
  unfold srcA ldCells
  simp only [Mem.get_put, if_neg (fun (e : x.b = b ∧ b < m.next) => h e.1)]

theorem insert_ok {E : Env} (hE : EnvOk E) {f : FuncId} {st e : TypeId} {sz w : Nat} {zs : List AV} (hst : E.P.underlying st = some (.slice e)) (hsz : szT E.P e = some sz) (hw : bytesT E.P e = some w) (hz : zeroA E.P e = some zs) (hf : ∃ fn, E.P.funcs[f]? = some fn ∧ fn.body.isSome = true ∧ fn.name ≠ "runtime.NumGoroutine")
    (ht : InsText E f st sz w zs) (args : List AV) (m : Mem) (r : AV) (m' : Mem) (h : insH E.P st args m = some (r, m')) : FnOk E.P (.fn f) args m r m' := by
  unfold insH at h
  simp only [hst, hsz, hw, hz, Option.bind_some] at h
  split at h
  · rename_i s i x sx lx cx ex
    obtain ⟨⟨k, new⟩, h1, hA⟩ := Option.bind_eq_some_iff.1 h
    clear h
    have hk := srcA_len h1
    subst hk
    split at hA
    · rename_i hc
      simp only at hc
      obtain ⟨c1, c2, c3⟩ := hc
      split at hA
      · rename_i s0 ex0
        split at hA
        · rename_i hi
          subst hi
          exact run_sound hE _ _ _ _ _ (ht.fin _ _ 0 k new none s0 0 0 ex0 x sx cx ex m (r, m') rfl rfl h1 c1 c3 (.inr ⟨rfl, rfl, rfl⟩) hA)
        · cases hA
      · rename_i a s' len cap ex'
        split at hA
        · rename_i hi
          subst hi
          split at hA
          · rename_i hs
            exact run_sound hE _ _ _ _ _ (ht.fin _ _ len k new (some a) s' len cap ex' x sx cx ex m (r, m') rfl rfl h1 c1 c3 (.inl ⟨a, rfl, hs⟩) hA)
          · cases hA
        · split at hA
          · rename_i hni hcc
            obtain ⟨d1, rfl, rfl, d3, d4, d5, d6, d7, d8⟩ := hcc
            split at hA
            · rename_i xs cs hx ha
              obtain ⟨old, h2, hB⟩ := Option.bind_eq_some_iff.1 hA
              clear hA
              split at hB
              · rename_i hone
                cases hB
                obtain ⟨i, rfl⟩ := Int.eq_ofNat_of_zero_le c2
                simp only [Int.toNat_natCast]
                have hil : i < len := by omega
                refine ⟨by simp, fun p w0 cargs hm hG hfree hv => .inl ?_⟩
                obtain ⟨fn, g1, g2, g3⟩ := hf
                refine ⟨fn, g1, g2, g3, ?_⟩
                simp only [VRs] at hv
                obtain ⟨v1, _, rfl, hv1, v2, _, rfl, hv2, v3, _, rfl, hv3, rfl⟩ := hv
                have hv1' := hv1
                simp only [VR, SR] at hv1'
                obtain ⟨ci, off, cap', q1, rfl, q2, q3, q4, q5, q6⟩ := hv1'
                have q5 := q5 trivial
                have ho : off = a.o + ci.d := q6 (by omega)
                subst ho
                obtain ⟨wl, hwide⟩ := Sim.widen hm ha q1
                generalize hcs : cs ++ List.replicate (ci.n - ci.d - cs.length) .undef = cs1 at hwide
                have hl1 : cs1.length = ci.n - ci.d := by rw [← hcs]; simp; omega
                generalize hm1 : m.put a.b (some (.cells cs1 false)) = m1 at hwide
                have hal := Mem.get_lt ha
                have ha1 : m1.get a.b = some (.cells cs1 false) := by rw [← hm1, Mem.get_put, if_pos ⟨rfl, hal⟩]
                have hoth : ∀ b, b ≠ a.b → m1.get b = m.get b := fun b hb => by rw [← hm1, Mem.get_put, if_neg (fun e => hb e.1)]
                have hnext1 : m1.next = m.next := by rw [← hm1]; rfl
                obtain ⟨cs0, ro0, e1, e2, e3⟩ := ldCells_spec h2
                rw [ha] at e1; cases e1
                have hold : (cs1.drop a.o).take (len * s') = old := by
                  rw [e3, ← hcs, List.drop_append_of_le_length (by omega), List.take_append_of_le_length (by simp; omega)]
                have hfit : a.o + cap' * s' ≤ cs1.length := by rw [hl1]; omega
                have hsrc : srcA s' (.sl (some x) sx k cx ex) m1 = some (k, new) := by rw [← hm1, srcA_put d3]; exact h1
                have hx1 : ∃ ds, m1.get x.b = some (.cells ds false) := ⟨xs, by rw [hoth _ d3]; exact hx⟩
                have hargs : VRs p [.sl (some a) s' len cap' true, .int .i64 (i : Int), .sl (some x) sx k cx ex] [.slice (some ⟨ci.c, a.o + ci.d, none⟩) len cap', v2, v3] := by
                  simp only [VRs]
                  refine ⟨_, _, rfl, ?_, _, _, rfl, hv2, _, _, rfl, hv3, rfl⟩
                  simp only [VR, SR]
                  exact ⟨ci, a.o + ci.d, cap', q1, rfl, by omega, Nat.le_refl _, fun _ => rfl, by simp, fun _ => rfl⟩
                by_cases hroom : len + k ≤ cap'
                · obtain ⟨m2, r1, r2, r3, r4⟩ := ht.room a len cap' i k x sx cx ex cs1 old new m1 ha1 hfit hold hone hx1 d3 hsrc c3 c1 d4 d5 d6 hil d7 hroom
                  have hok := run_sound hE _ _ _ _ _ r1
                  refine (fnOk_calls hok g1 g2 g3 hwide.rel (by rw [hnext1]; exact hG) (fun b x1 x2 => by omega) hargs).mono ?_
                  rintro e0 w1 ⟨cv, p1, rfl, k1, k2⟩
                  have hp1 : ∀ b, p1 b = p b := fun b => k2.out b (by omega)
                  simp only [VR, SR] at k1
                  obtain ⟨ci1, off1, cap1, j1, rfl, j2, j3, j4, j5, j6⟩ := k1
                  rw [hp1, q1] at j1; cases j1
                  have hcap : cap1 = cap' := j4 trivial
                  subst hcap
                  have hoff1 : off1 = a.o + ci.d := j6 (by omega)
                  subst hoff1
                  obtain ⟨arr, el, fr, f1, f2, f3, f4⟩ := k2.rel.live _ _ _ _ r4 (by rw [hp1]; exact q1)
                  have hfree2 : p1 m2.next = none := by rw [hp1, r2, hnext1]; exact hfree _ (Nat.le_refl _) (by simp)
                  have hlo : (old.take (i * s')).length = i * s' := by
                    rw [List.length_take, ← hold, List.length_take, List.length_drop]
                    have : i * s' ≤ len * s' := Nat.mul_le_mul_right _ (by omega)
                    have : len * s' ≤ cap1 * s' := Nat.mul_le_mul_right _ (by omega)
                    omega
                  have htake := Sim.takeOver (P := E.P) (d := a.o + ci.d) (cs' := old.take (i * s') ++ new ++ old.drop (i * s')) k2.rel (by rw [r2, hnext1]; exact hG) r4 (by rw [hp1]; exact q1) hfree2 f1 f2 (f3 rfl) (fun j y hj => by
                    obtain ⟨v, u1, u2⟩ := f4 (a.o + j) y (by
                      have hpre : cs1.take (a.o + i * s') = cs1.take a.o ++ old.take (i * s') := by
                        rw [← hold, List.take_take, Nat.min_eq_left (Nat.mul_le_mul_right _ (by omega)), ← List.take_add]
                      have hao : (cs1.take a.o).length = a.o := by rw [List.length_take]; have : 0 ≤ cap1 * s' := Nat.zero_le _; omega
                      rw [hpre]
                      simp only [List.append_assoc]
                      rw [List.getElem?_append_right (by omega), hao, Nat.add_sub_cancel_left]
                      rw [← List.append_assoc, ← List.append_assoc, List.getElem?_append_left (by have := (List.getElem?_eq_some_iff.1 hj).1; simpa [Nat.add_assoc] using this)]
                      exact hj)
                    exact ⟨v, by rw [← Nat.add_assoc, Nat.add_comm ci.d a.o] at u1; exact u1, u2⟩) (fun _ _ => rfl) rfl rfl rfl rfl
                  refine ⟨_, _, rfl, ?_, ((hwide.trans k2 (fun b x1 x2 => by omega)).trans htake ?_).congr ?_ ?_⟩
                  · simp only [VR, SR]
                    refine ⟨⟨ci.c, a.o + ci.d, ci.n, none⟩, a.o + ci.d, cap1, by simp [r2, hnext1], rfl, Nat.le_refl _, by omega, by simp, fun _ => by simpa using q5, fun _ => by simp⟩
                  · intro b x1 x2; simp [r2, hnext1] at x2; exact hfree b x1 (by simpa using x2)
                  · simp [r2, hnext1]
                  · intro b
                    rw [Mem.get_alloc, Mem.get_alloc, Mem.next_put, Mem.next_put, r2, hnext1, Mem.get_put, Mem.get_put]
                    by_cases e : b = m.next
                    · simp [e]
                    · rw [if_neg e, if_neg e]
                      by_cases e2 : b = a.b
                      · subst e2; rw [if_pos ⟨rfl, by omega⟩, if_pos ⟨rfl, hal⟩]
                      · rw [if_neg (fun y => e2 y.1), if_neg (fun y => e2 y.1), r3 b e2, hoth b e2]
                · obtain ⟨m2, r1, r2, r3, r4⟩ := ht.grow a len cap' i k x sx cx ex cs1 old new m1 ha1 hfit hold hone hx1 d3 hsrc c3 c1 d4 d5 d6 hil d7 (by omega) (by omega)
                  have hok := run_sound hE _ _ _ _ _ r1
                  have hfree1 : Free p m1.next m2.next := by intro b x1 x2; rw [r2, hnext1] at x2; rw [hnext1] at x1; exact hfree b x1 (by simpa using x2)
                  refine (fnOk_calls hok g1 g2 g3 hwide.rel (by rw [hnext1]; exact hG) hfree1 hargs).mono ?_
                  rintro e0 w1 ⟨cv, p1, rfl, k1, k2⟩
                  have ha2 : m2.get a.b = some (.cells cs1 false) := by rw [r3 a.b (by omega)]; exact ha1
                  have hpa : p1 a.b = some ci := k2.le _ _ q1
                  have hkill := Sim.kill k2.rel ha2 hpa
                  refine ⟨cv, p1, rfl, by rw [hnext1] at k1; exact k1, ((hwide.trans k2 (by rw [← hnext1]; exact hfree1)).trans hkill ?_).congr ?_ ?_⟩
                  · intro b x1 x2; simp only [Mem.next_put, r2, hnext1] at x2; exact hfree b x1 (by simpa using x2)
                  · simp [r2, hnext1]
                  · intro b
                    rw [Mem.get_alloc, Mem.next_put, Mem.get_put, Mem.get_put]
                    by_cases e : b = m.next
                    · subst e
                      rw [if_neg (by omega), if_pos rfl, ← hnext1, r4]
                    · rw [if_neg e]
                      by_cases e2 : b = a.b
                      · subst e2; rw [if_pos ⟨rfl, by omega⟩, if_pos ⟨rfl, hal⟩]
                      · rw [if_neg (fun y => e2 y.1), if_neg (fun y => e2 y.1), r3 b (by omega), hoth b e2]
              · cases hB
            · cases hA
          · cases hA
      · cases hA
    · cases hA
  · cases h
end
end Go.Abs
end
section
namespace Go.Proofs.YtolmealocdgdhaaGreat
open Go Go.Abs
set_option maxRecDepth 4000
theorem looks0 : (List.range' 0 50).all (fnLook Tryz.prog hints) = true := by kernel_rfl
theorem looks50 : (List.range' 50 50).all (fnLook Tryz.prog hints) = true := by kernel_rfl
theorem looks100 : (List.range' 100 50).all (fnLook Tryz.prog hints) = true := by kernel_rfl
theorem looks150 : (List.range' 150 50).all (fnLook Tryz.prog hints) = true := by kernel_rfl
theorem looks200 : (List.range' 200 50).all (fnLook Tryz.prog hints) = true := by kernel_rfl
theorem looks250 : (List.range' 250 50).all (fnLook Tryz.prog hints) = true := by kernel_rfl
theorem looks300 : (List.range' 300 50).all (fnLook Tryz.prog hints) = true := by kernel_rfl
theorem looks350 : (List.range' 350 50).all (fnLook Tryz.prog hints) = true := by kernel_rfl
theorem looks400 : (List.range' 400 50).all (fnLook Tryz.prog hints) = true := by kernel_rfl
theorem looks450 : (List.range' 450 50).all (fnLook Tryz.prog hints) = true := by kernel_rfl
theorem looks500 : (List.range' 500 31).all (fnLook Tryz.prog hints) = true := by kernel_rfl
theorem lookAll {p : Nat → Bool} {a k : Nat} (h : (List.range' a k).all p = true) (f : Nat) (h1 : a ≤ f) (h2 : f < a + k) : p f = true := List.all_eq_true.1 h f (List.mem_range'_1.2 ⟨h1, h2⟩)
theorem looks (f : Nat) (h : f < 531) : fnLook Tryz.prog hints f = true :=
  if h0 : f < 50 then lookAll looks0 f (by omega) (by omega) else
  if h50 : f < 100 then lookAll looks50 f (by omega) (by omega) else
  if h100 : f < 150 then lookAll looks100 f (by omega) (by omega) else
  if h150 : f < 200 then lookAll looks150 f (by omega) (by omega) else
  if h200 : f < 250 then lookAll looks200 f (by omega) (by omega) else
  if h250 : f < 300 then lookAll looks250 f (by omega) (by omega) else
  if h300 : f < 350 then lookAll looks300 f (by omega) (by omega) else
  if h350 : f < 400 then lookAll looks350 f (by omega) (by omega) else
  if h400 : f < 450 then lookAll looks400 f (by omega) (by omega) else
  if h450 : f < 500 then lookAll looks450 f (by omega) (by omega) else
  lookAll looks500 f (by omega) (by omega)
noncomputable def H0 (f : FuncId) : Option (List AV → Mem → R) :=
  match f with
  | 312 => some add64H
  | 346 => some overlapsH
  | 348 => some overlapsH
  | 435 => some overlapsH
  | 437 => some overlapsH
  | 439 => some overlapsH
  | 441 => some overlapsH
  | 443 => some overlapsH
  | 486 => some sub64H
  | _ => none
noncomputable def E0 : Env := envOf Tryz.prog hints H0
theorem E0_ok : EnvOk E0 := envOf_ok (by kernel_rfl) 531 (fun f h => by
    unfold hints; rw [List.getElem?_eq_none (by show 531 ≤ f; exact h)]; rfl) looks (fun f h e => by
    unfold H0 at e
    split at e
    · have e1 := Option.some.inj e; subst e1; exact add64_ok (P := Tryz.prog) (fn := Tryz.f312) Tryz.func312 (by kernel_rfl) (by kernel_rfl) (by kernel_rfl) (by kernel_rfl)
    · have e1 := Option.some.inj e; subst e1; exact overlaps_ok (P := Tryz.prog) (fn := Tryz.f346) (st := 342) (tr := 4) (e := 22) (sz := 1) Tryz.func346 (by kernel_rfl) (by kernel_rfl) (by kernel_rfl) (by kernel_rfl) (by kernel_rfl) (by kernel_rfl)
    · have e1 := Option.some.inj e; subst e1; exact overlaps_ok (P := Tryz.prog) (fn := Tryz.f348) (st := 394) (tr := 4) (e := 254) (sz := 4) Tryz.func348 (by kernel_rfl) (by kernel_rfl) (by kernel_rfl) (by kernel_rfl) (by kernel_rfl) (by kernel_rfl)
    · have e1 := Option.some.inj e; subst e1; exact overlaps_ok (P := Tryz.prog) (fn := Tryz.f435) (st := 343) (tr := 4) (e := 9) (sz := 1) Tryz.func435 (by kernel_rfl) (by kernel_rfl) (by kernel_rfl) (by kernel_rfl) (by kernel_rfl) (by kernel_rfl)
    · have e1 := Option.some.inj e; subst e1; exact overlaps_ok (P := Tryz.prog) (fn := Tryz.f437) (st := 93) (tr := 4) (e := 92) (sz := 4) Tryz.func437 (by kernel_rfl) (by kernel_rfl) (by kernel_rfl) (by kernel_rfl) (by kernel_rfl) (by kernel_rfl)
    · have e1 := Option.some.inj e; subst e1; exact overlaps_ok (P := Tryz.prog) (fn := Tryz.f439) (st := 97) (tr := 4) (e := 189) (sz := 9) Tryz.func439 (by kernel_rfl) (by kernel_rfl) (by kernel_rfl) (by kernel_rfl) (by kernel_rfl) (by kernel_rfl)
    · have e1 := Option.some.inj e; subst e1; exact overlaps_ok (P := Tryz.prog) (fn := Tryz.f441) (st := 96) (tr := 4) (e := 95) (sz := 4) Tryz.func441 (by kernel_rfl) (by kernel_rfl) (by kernel_rfl) (by kernel_rfl) (by kernel_rfl) (by kernel_rfl)
    · have e1 := Option.some.inj e; subst e1; exact overlaps_ok (P := Tryz.prog) (fn := Tryz.f443) (st := 228) (tr := 4) (e := 324) (sz := 4) Tryz.func443 (by kernel_rfl) (by kernel_rfl) (by kernel_rfl) (by kernel_rfl) (by kernel_rfl) (by kernel_rfl)
    · have e1 := Option.some.inj e; subst e1; exact sub64_ok (P := Tryz.prog) (fn := Tryz.f486) Tryz.func486 (by kernel_rfl) (by kernel_rfl) (by kernel_rfl) (by kernel_rfl)
    · cases e)
end Go.Proofs.YtolmealocdgdhaaGreat
end
section
namespace Go.Proofs.YtolmealocdgdhaaGreat
open Go Go.Abs
set_option maxRecDepth 4000
noncomputable def g260_0 (t0 t1 t2 t7 : AV) (m : Mem) : R := goAt E0 260 0 ([t0, t1, t2, .undef, .undef, .undef, .undef, t7] ++ List.replicate 87 .undef) m
noncomputable def g260_1 (t0 t1 t2 t7 t8 : AV) (m : Mem) : R := goAt E0 260 1 ([t0, t1, t2, .undef, .undef, .undef, .undef, t7, t8] ++ List.replicate 86 .undef) m
noncomputable def g260_2 (t0 t1 t2 t7 t8 : AV) (m : Mem) : R := goAt E0 260 2 ([t0, t1, t2, .undef, .undef, .undef, .undef, t7, t8] ++ List.replicate 86 .undef) m
noncomputable def g260_3 (t0 t1 t2 t7 t8 : AV) (m : Mem) : R := goAt E0 260 3 ([t0, t1, t2, .undef, .undef, .undef, .undef, t7, t8] ++ List.replicate 86 .undef) m
theorem g260_0_eq (t0 t1 t2 t7 : AV) (m : Mem) : g260_0 t0 t1 t2 t7 m =
  Option.bind (lenT Tryz.prog 342 t0) fun x0 =>
  Option.bind (binA Tryz.prog .eql 3 t1 x0) fun x1 =>
  condA x1 (
   Option.bind (appendA 1 8 t0 t2 m) fun r2 =>
   some (r2.1, r2.2)) (
   g260_1 t0 t1 t2 t7 x0 m) :=
  goAt_eq 400 (by kernel_rfl)
theorem g260_1_eq (t0 t1 t2 t7 t8 : AV) (m : Mem) : g260_1 t0 t1 t2 t7 t8 m =
  Option.bind (binA Tryz.prog .add 3 t8 t7) fun x0 =>
  Option.bind (capT Tryz.prog 342 t0) fun x1 =>
  Option.bind (binA Tryz.prog .gtr 3 x0 x1) fun x2 =>
  condA x2 (
   Option.bind (sliceA Tryz.prog 342 t0 none (some t1)) fun x3 =>
   Option.bind (binA Tryz.prog .add 3 t8 t7) fun x4 =>
   Option.bind (binA Tryz.prog .sub 3 x4 t1) fun x5 =>
   Option.bind (appendZ Tryz.prog 342 x3 x5 m) fun r6 =>
   Option.bind (sliceA Tryz.prog 342 r6.1 (some t1) none) fun x7 =>
   Option.bind (copyA 1 x7 t2 r6.2) fun r8 =>
   Option.bind (binA Tryz.prog .add 3 t1 t7) fun x9 =>
   Option.bind (sliceA Tryz.prog 342 r6.1 (some x9) none) fun x10 =>
   Option.bind (sliceA Tryz.prog 342 t0 (some t1) none) fun x11 =>
   Option.bind (copyA 1 x10 x11 r8.2) fun r12 =>
   some (r6.1, r12.2)) (
   g260_2 t0 t1 t2 t7 t8 m) :=
  goAt_eq 400 (by kernel_rfl)
theorem g260_2_eq (t0 t1 t2 t7 t8 : AV) (m : Mem) : g260_2 t0 t1 t2 t7 t8 m =
  Option.bind (binA Tryz.prog .add 3 t8 t7) fun x0 =>
  Option.bind (sliceA Tryz.prog 342 t0 none (some x0)) fun x1 =>
  Option.bind (binA Tryz.prog .add 3 t1 t7) fun x2 =>
  Option.bind (sliceA Tryz.prog 342 x1 (some x2) none) fun x3 =>
  Option.bind (run E0 (.fn 346) [t2, x3] m) fun r4 =>
  Option.bind (unA .not r4.1) fun x5 =>
  condA x5 (
   Option.bind (binA Tryz.prog .add 3 t1 t7) fun x6 =>
   Option.bind (sliceA Tryz.prog 342 x1 (some x6) none) fun x7 =>
   Option.bind (sliceA Tryz.prog 342 x1 (some t1) none) fun x8 =>
   Option.bind (copyA 1 x7 x8 r4.2) fun r9 =>
   Option.bind (sliceA Tryz.prog 342 x1 (some t1) none) fun x10 =>
   Option.bind (copyA 1 x10 t2 r9.2) fun r11 =>
   some (x1, r11.2)) (
   g260_3 x1 t1 t2 t7 t8 r4.2) :=
  goAt_eq 400 (by kernel_rfl)
theorem g260_3_eq (t0 t1 t2 t7 t8 : AV) (m : Mem) : g260_3 t0 t1 t2 t7 t8 m =
  Option.bind (sliceA Tryz.prog 342 t0 (some t8) none) fun x0 =>
  Option.bind (copyA 1 x0 t2 m) fun r1 =>
  Option.bind (sliceA Tryz.prog 342 t0 (some t1) none) fun x2 =>
  Option.bind (run E0 (.fn 347) [x2, t7] r1.2) fun r3 =>
  some (t0, r3.2) :=
  goAt_eq 400 (by kernel_rfl)
theorem f260_eq (a0 a1 a2 : AV) (m : Mem) : run E0 (.fn 260) [a0, a1, a2] m =
  Option.bind (sliceA Tryz.prog 342 a0 (some a1) none) fun _ =>
  Option.bind (lenT Tryz.prog 342 a2) fun x1 =>
  Option.bind (binA Tryz.prog .eql 3 x1 (.int .i64 0)) fun x2 =>
  condA x2 (
   some (a0, m)) (
   g260_0 a0 a1 a2 x1 m) :=
  run_eq 400 rfl (by kernel_rfl) (by kernel_rfl)
noncomputable def g261_0 (t0 t1 t2 t7 : AV) (m : Mem) : R := goAt E0 261 0 ([t0, t1, t2, .undef, .undef, .undef, .undef, t7] ++ List.replicate 87 .undef) m
noncomputable def g261_1 (t0 t1 t2 t7 t8 : AV) (m : Mem) : R := goAt E0 261 1 ([t0, t1, t2, .undef, .undef, .undef, .undef, t7, t8] ++ List.replicate 86 .undef) m
noncomputable def g261_2 (t0 t1 t2 t7 t8 : AV) (m : Mem) : R := goAt E0 261 2 ([t0, t1, t2, .undef, .undef, .undef, .undef, t7, t8] ++ List.replicate 86 .undef) m
noncomputable def g261_3 (t0 t1 t2 t7 t8 : AV) (m : Mem) : R := goAt E0 261 3 ([t0, t1, t2, .undef, .undef, .undef, .undef, t7, t8] ++ List.replicate 86 .undef) m
theorem g261_0_eq (t0 t1 t2 t7 : AV) (m : Mem) : g261_0 t0 t1 t2 t7 m =
  Option.bind (lenT Tryz.prog 394 t0) fun x0 =>
  Option.bind (binA Tryz.prog .eql 3 t1 x0) fun x1 =>
  condA x1 (
   Option.bind (appendA 4 32 t0 t2 m) fun r2 =>
   some (r2.1, r2.2)) (
   g261_1 t0 t1 t2 t7 x0 m) :=
  goAt_eq 400 (by kernel_rfl)
theorem g261_1_eq (t0 t1 t2 t7 t8 : AV) (m : Mem) : g261_1 t0 t1 t2 t7 t8 m =
  Option.bind (binA Tryz.prog .add 3 t8 t7) fun x0 =>
  Option.bind (capT Tryz.prog 394 t0) fun x1 =>
  Option.bind (binA Tryz.prog .gtr 3 x0 x1) fun x2 =>
  condA x2 (
   Option.bind (sliceA Tryz.prog 394 t0 none (some t1)) fun x3 =>
   Option.bind (binA Tryz.prog .add 3 t8 t7) fun x4 =>
   Option.bind (binA Tryz.prog .sub 3 x4 t1) fun x5 =>
   Option.bind (appendZ Tryz.prog 394 x3 x5 m) fun r6 =>
   Option.bind (sliceA Tryz.prog 394 r6.1 (some t1) none) fun x7 =>
   Option.bind (copyA 4 x7 t2 r6.2) fun r8 =>
   Option.bind (binA Tryz.prog .add 3 t1 t7) fun x9 =>
   Option.bind (sliceA Tryz.prog 394 r6.1 (some x9) none) fun x10 =>
   Option.bind (sliceA Tryz.prog 394 t0 (some t1) none) fun x11 =>
   Option.bind (copyA 4 x10 x11 r8.2) fun r12 =>
   some (r6.1, r12.2)) (
   g261_2 t0 t1 t2 t7 t8 m) :=
  goAt_eq 400 (by kernel_rfl)
theorem g261_2_eq (t0 t1 t2 t7 t8 : AV) (m : Mem) : g261_2 t0 t1 t2 t7 t8 m =
  Option.bind (binA Tryz.prog .add 3 t8 t7) fun x0 =>
  Option.bind (sliceA Tryz.prog 394 t0 none (some x0)) fun x1 =>
  Option.bind (binA Tryz.prog .add 3 t1 t7) fun x2 =>
  Option.bind (sliceA Tryz.prog 394 x1 (some x2) none) fun x3 =>
  Option.bind (run E0 (.fn 348) [t2, x3] m) fun r4 =>
  Option.bind (unA .not r4.1) fun x5 =>
  condA x5 (
   Option.bind (binA Tryz.prog .add 3 t1 t7) fun x6 =>
   Option.bind (sliceA Tryz.prog 394 x1 (some x6) none) fun x7 =>
   Option.bind (sliceA Tryz.prog 394 x1 (some t1) none) fun x8 =>
   Option.bind (copyA 4 x7 x8 r4.2) fun r9 =>
   Option.bind (sliceA Tryz.prog 394 x1 (some t1) none) fun x10 =>
   Option.bind (copyA 4 x10 t2 r9.2) fun r11 =>
   some (x1, r11.2)) (
   g261_3 x1 t1 t2 t7 t8 r4.2) :=
  goAt_eq 400 (by kernel_rfl)
theorem g261_3_eq (t0 t1 t2 t7 t8 : AV) (m : Mem) : g261_3 t0 t1 t2 t7 t8 m =
  Option.bind (sliceA Tryz.prog 394 t0 (some t8) none) fun x0 =>
  Option.bind (copyA 4 x0 t2 m) fun r1 =>
  Option.bind (sliceA Tryz.prog 394 t0 (some t1) none) fun x2 =>
  Option.bind (run E0 (.fn 349) [x2, t7] r1.2) fun r3 =>
  some (t0, r3.2) :=
  goAt_eq 400 (by kernel_rfl)
theorem f261_eq (a0 a1 a2 : AV) (m : Mem) : run E0 (.fn 261) [a0, a1, a2] m =
  Option.bind (sliceA Tryz.prog 394 a0 (some a1) none) fun _ =>
  Option.bind (lenT Tryz.prog 394 a2) fun x1 =>
  Option.bind (binA Tryz.prog .eql 3 x1 (.int .i64 0)) fun x2 =>
  condA x2 (
   some (a0, m)) (
   g261_0 a0 a1 a2 x1 m) :=
  run_eq 400 rfl (by kernel_rfl) (by kernel_rfl)
noncomputable def g383_0 (t0 t1 t2 t7 : AV) (m : Mem) : R := goAt E0 383 0 ([t0, t1, t2, .undef, .undef, .undef, .undef, t7] ++ List.replicate 87 .undef) m
noncomputable def g383_1 (t0 t1 t2 t7 t8 : AV) (m : Mem) : R := goAt E0 383 1 ([t0, t1, t2, .undef, .undef, .undef, .undef, t7, t8] ++ List.replicate 86 .undef) m
noncomputable def g383_2 (t0 t1 t2 t7 t8 : AV) (m : Mem) : R := goAt E0 383 2 ([t0, t1, t2, .undef, .undef, .undef, .undef, t7, t8] ++ List.replicate 86 .undef) m
noncomputable def g383_3 (t0 t1 t2 t7 t8 : AV) (m : Mem) : R := goAt E0 383 3 ([t0, t1, t2, .undef, .undef, .undef, .undef, t7, t8] ++ List.replicate 86 .undef) m
theorem g383_0_eq (t0 t1 t2 t7 : AV) (m : Mem) : g383_0 t0 t1 t2 t7 m =
  Option.bind (lenT Tryz.prog 343 t0) fun x0 =>
  Option.bind (binA Tryz.prog .eql 3 t1 x0) fun x1 =>
  condA x1 (
   Option.bind (appendA 1 16 t0 t2 m) fun r2 =>
   some (r2.1, r2.2)) (
   g383_1 t0 t1 t2 t7 x0 m) :=
  goAt_eq 400 (by kernel_rfl)
theorem g383_1_eq (t0 t1 t2 t7 t8 : AV) (m : Mem) : g383_1 t0 t1 t2 t7 t8 m =
  Option.bind (binA Tryz.prog .add 3 t8 t7) fun x0 =>
  Option.bind (capT Tryz.prog 343 t0) fun x1 =>
  Option.bind (binA Tryz.prog .gtr 3 x0 x1) fun x2 =>
  condA x2 (
   Option.bind (sliceA Tryz.prog 343 t0 none (some t1)) fun x3 =>
   Option.bind (binA Tryz.prog .add 3 t8 t7) fun x4 =>
   Option.bind (binA Tryz.prog .sub 3 x4 t1) fun x5 =>
   Option.bind (appendZ Tryz.prog 343 x3 x5 m) fun r6 =>
   Option.bind (sliceA Tryz.prog 343 r6.1 (some t1) none) fun x7 =>
   Option.bind (copyA 1 x7 t2 r6.2) fun r8 =>
   Option.bind (binA Tryz.prog .add 3 t1 t7) fun x9 =>
   Option.bind (sliceA Tryz.prog 343 r6.1 (some x9) none) fun x10 =>
   Option.bind (sliceA Tryz.prog 343 t0 (some t1) none) fun x11 =>
   Option.bind (copyA 1 x10 x11 r8.2) fun r12 =>
   some (r6.1, r12.2)) (
   g383_2 t0 t1 t2 t7 t8 m) :=
  goAt_eq 400 (by kernel_rfl)
theorem g383_2_eq (t0 t1 t2 t7 t8 : AV) (m : Mem) : g383_2 t0 t1 t2 t7 t8 m =
  Option.bind (binA Tryz.prog .add 3 t8 t7) fun x0 =>
  Option.bind (sliceA Tryz.prog 343 t0 none (some x0)) fun x1 =>
  Option.bind (binA Tryz.prog .add 3 t1 t7) fun x2 =>
  Option.bind (sliceA Tryz.prog 343 x1 (some x2) none) fun x3 =>
  Option.bind (run E0 (.fn 435) [t2, x3] m) fun r4 =>
  Option.bind (unA .not r4.1) fun x5 =>
  condA x5 (
   Option.bind (binA Tryz.prog .add 3 t1 t7) fun x6 =>
   Option.bind (sliceA Tryz.prog 343 x1 (some x6) none) fun x7 =>
   Option.bind (sliceA Tryz.prog 343 x1 (some t1) none) fun x8 =>
   Option.bind (copyA 1 x7 x8 r4.2) fun r9 =>
   Option.bind (sliceA Tryz.prog 343 x1 (some t1) none) fun x10 =>
   Option.bind (copyA 1 x10 t2 r9.2) fun r11 =>
   some (x1, r11.2)) (
   g383_3 x1 t1 t2 t7 t8 r4.2) :=
  goAt_eq 400 (by kernel_rfl)
theorem g383_3_eq (t0 t1 t2 t7 t8 : AV) (m : Mem) : g383_3 t0 t1 t2 t7 t8 m =
  Option.bind (sliceA Tryz.prog 343 t0 (some t8) none) fun x0 =>
  Option.bind (copyA 1 x0 t2 m) fun r1 =>
  Option.bind (sliceA Tryz.prog 343 t0 (some t1) none) fun x2 =>
  Option.bind (run E0 (.fn 436) [x2, t7] r1.2) fun r3 =>
  some (t0, r3.2) :=
  goAt_eq 400 (by kernel_rfl)
theorem f383_eq (a0 a1 a2 : AV) (m : Mem) : run E0 (.fn 383) [a0, a1, a2] m =
  Option.bind (sliceA Tryz.prog 343 a0 (some a1) none) fun _ =>
  Option.bind (lenT Tryz.prog 343 a2) fun x1 =>
  Option.bind (binA Tryz.prog .eql 3 x1 (.int .i64 0)) fun x2 =>
  condA x2 (
   some (a0, m)) (
   g383_0 a0 a1 a2 x1 m) :=
  run_eq 400 rfl (by kernel_rfl) (by kernel_rfl)
noncomputable def g384_0 (t0 t1 t2 t7 : AV) (m : Mem) : R := goAt E0 384 0 ([t0, t1, t2, .undef, .undef, .undef, .undef, t7] ++ List.replicate 87 .undef) m
noncomputable def g384_1 (t0 t1 t2 t7 t8 : AV) (m : Mem) : R := goAt E0 384 1 ([t0, t1, t2, .undef, .undef, .undef, .undef, t7, t8] ++ List.replicate 86 .undef) m
noncomputable def g384_2 (t0 t1 t2 t7 t8 : AV) (m : Mem) : R := goAt E0 384 2 ([t0, t1, t2, .undef, .undef, .undef, .undef, t7, t8] ++ List.replicate 86 .undef) m
noncomputable def g384_3 (t0 t1 t2 t7 t8 : AV) (m : Mem) : R := goAt E0 384 3 ([t0, t1, t2, .undef, .undef, .undef, .undef, t7, t8] ++ List.replicate 86 .undef) m
theorem g384_0_eq (t0 t1 t2 t7 : AV) (m : Mem) : g384_0 t0 t1 t2 t7 m =
  Option.bind (lenT Tryz.prog 93 t0) fun x0 =>
  Option.bind (binA Tryz.prog .eql 3 t1 x0) fun x1 =>
  condA x1 (
   Option.bind (appendA 4 40 t0 t2 m) fun r2 =>
   some (r2.1, r2.2)) (
   g384_1 t0 t1 t2 t7 x0 m) :=
  goAt_eq 400 (by kernel_rfl)
theorem g384_1_eq (t0 t1 t2 t7 t8 : AV) (m : Mem) : g384_1 t0 t1 t2 t7 t8 m =
  Option.bind (binA Tryz.prog .add 3 t8 t7) fun x0 =>
  Option.bind (capT Tryz.prog 93 t0) fun x1 =>
  Option.bind (binA Tryz.prog .gtr 3 x0 x1) fun x2 =>
  condA x2 (
   Option.bind (sliceA Tryz.prog 93 t0 none (some t1)) fun x3 =>
   Option.bind (binA Tryz.prog .add 3 t8 t7) fun x4 =>
   Option.bind (binA Tryz.prog .sub 3 x4 t1) fun x5 =>
   Option.bind (appendZ Tryz.prog 93 x3 x5 m) fun r6 =>
   Option.bind (sliceA Tryz.prog 93 r6.1 (some t1) none) fun x7 =>
   Option.bind (copyA 4 x7 t2 r6.2) fun r8 =>
   Option.bind (binA Tryz.prog .add 3 t1 t7) fun x9 =>
   Option.bind (sliceA Tryz.prog 93 r6.1 (some x9) none) fun x10 =>
   Option.bind (sliceA Tryz.prog 93 t0 (some t1) none) fun x11 =>
   Option.bind (copyA 4 x10 x11 r8.2) fun r12 =>
   some (r6.1, r12.2)) (
   g384_2 t0 t1 t2 t7 t8 m) :=
  goAt_eq 400 (by kernel_rfl)
theorem g384_2_eq (t0 t1 t2 t7 t8 : AV) (m : Mem) : g384_2 t0 t1 t2 t7 t8 m =
  Option.bind (binA Tryz.prog .add 3 t8 t7) fun x0 =>
  Option.bind (sliceA Tryz.prog 93 t0 none (some x0)) fun x1 =>
  Option.bind (binA Tryz.prog .add 3 t1 t7) fun x2 =>
  Option.bind (sliceA Tryz.prog 93 x1 (some x2) none) fun x3 =>
  Option.bind (run E0 (.fn 437) [t2, x3] m) fun r4 =>
  Option.bind (unA .not r4.1) fun x5 =>
  condA x5 (
   Option.bind (binA Tryz.prog .add 3 t1 t7) fun x6 =>
   Option.bind (sliceA Tryz.prog 93 x1 (some x6) none) fun x7 =>
   Option.bind (sliceA Tryz.prog 93 x1 (some t1) none) fun x8 =>
   Option.bind (copyA 4 x7 x8 r4.2) fun r9 =>
   Option.bind (sliceA Tryz.prog 93 x1 (some t1) none) fun x10 =>
   Option.bind (copyA 4 x10 t2 r9.2) fun r11 =>
   some (x1, r11.2)) (
   g384_3 x1 t1 t2 t7 t8 r4.2) :=
  goAt_eq 400 (by kernel_rfl)
theorem g384_3_eq (t0 t1 t2 t7 t8 : AV) (m : Mem) : g384_3 t0 t1 t2 t7 t8 m =
  Option.bind (sliceA Tryz.prog 93 t0 (some t8) none) fun x0 =>
  Option.bind (copyA 4 x0 t2 m) fun r1 =>
  Option.bind (sliceA Tryz.prog 93 t0 (some t1) none) fun x2 =>
  Option.bind (run E0 (.fn 438) [x2, t7] r1.2) fun r3 =>
  some (t0, r3.2) :=
  goAt_eq 400 (by kernel_rfl)
theorem f384_eq (a0 a1 a2 : AV) (m : Mem) : run E0 (.fn 384) [a0, a1, a2] m =
  Option.bind (sliceA Tryz.prog 93 a0 (some a1) none) fun _ =>
  Option.bind (lenT Tryz.prog 93 a2) fun x1 =>
  Option.bind (binA Tryz.prog .eql 3 x1 (.int .i64 0)) fun x2 =>
  condA x2 (
   some (a0, m)) (
   g384_0 a0 a1 a2 x1 m) :=
  run_eq 400 rfl (by kernel_rfl) (by kernel_rfl)
noncomputable def g385_0 (t0 t1 t2 t7 : AV) (m : Mem) : R := goAt E0 385 0 ([t0, t1, t2, .undef, .undef, .undef, .undef, t7] ++ List.replicate 87 .undef) m
noncomputable def g385_1 (t0 t1 t2 t7 t8 : AV) (m : Mem) : R := goAt E0 385 1 ([t0, t1, t2, .undef, .undef, .undef, .undef, t7, t8] ++ List.replicate 86 .undef) m
noncomputable def g385_2 (t0 t1 t2 t7 t8 : AV) (m : Mem) : R := goAt E0 385 2 ([t0, t1, t2, .undef, .undef, .undef, .undef, t7, t8] ++ List.replicate 86 .undef) m
noncomputable def g385_3 (t0 t1 t2 t7 t8 : AV) (m : Mem) : R := goAt E0 385 3 ([t0, t1, t2, .undef, .undef, .undef, .undef, t7, t8] ++ List.replicate 86 .undef) m
theorem g385_0_eq (t0 t1 t2 t7 : AV) (m : Mem) : g385_0 t0 t1 t2 t7 m =
  Option.bind (lenT Tryz.prog 97 t0) fun x0 =>
  Option.bind (binA Tryz.prog .eql 3 t1 x0) fun x1 =>
  condA x1 (
   Option.bind (appendA 9 88 t0 t2 m) fun r2 =>
   some (r2.1, r2.2)) (
   g385_1 t0 t1 t2 t7 x0 m) :=
  goAt_eq 400 (by kernel_rfl)
theorem g385_1_eq (t0 t1 t2 t7 t8 : AV) (m : Mem) : g385_1 t0 t1 t2 t7 t8 m =
  Option.bind (binA Tryz.prog .add 3 t8 t7) fun x0 =>
  Option.bind (capT Tryz.prog 97 t0) fun x1 =>
  Option.bind (binA Tryz.prog .gtr 3 x0 x1) fun x2 =>
  condA x2 (
   Option.bind (sliceA Tryz.prog 97 t0 none (some t1)) fun x3 =>
   Option.bind (binA Tryz.prog .add 3 t8 t7) fun x4 =>
   Option.bind (binA Tryz.prog .sub 3 x4 t1) fun x5 =>
   Option.bind (appendZ Tryz.prog 97 x3 x5 m) fun r6 =>
   Option.bind (sliceA Tryz.prog 97 r6.1 (some t1) none) fun x7 =>
   Option.bind (copyA 9 x7 t2 r6.2) fun r8 =>
   Option.bind (binA Tryz.prog .add 3 t1 t7) fun x9 =>
   Option.bind (sliceA Tryz.prog 97 r6.1 (some x9) none) fun x10 =>
   Option.bind (sliceA Tryz.prog 97 t0 (some t1) none) fun x11 =>
   Option.bind (copyA 9 x10 x11 r8.2) fun r12 =>
   some (r6.1, r12.2)) (
   g385_2 t0 t1 t2 t7 t8 m) :=
  goAt_eq 400 (by kernel_rfl)
theorem g385_2_eq (t0 t1 t2 t7 t8 : AV) (m : Mem) : g385_2 t0 t1 t2 t7 t8 m =
  Option.bind (binA Tryz.prog .add 3 t8 t7) fun x0 =>
  Option.bind (sliceA Tryz.prog 97 t0 none (some x0)) fun x1 =>
  Option.bind (binA Tryz.prog .add 3 t1 t7) fun x2 =>
  Option.bind (sliceA Tryz.prog 97 x1 (some x2) none) fun x3 =>
  Option.bind (run E0 (.fn 439) [t2, x3] m) fun r4 =>
  Option.bind (unA .not r4.1) fun x5 =>
  condA x5 (
   Option.bind (binA Tryz.prog .add 3 t1 t7) fun x6 =>
   Option.bind (sliceA Tryz.prog 97 x1 (some x6) none) fun x7 =>
   Option.bind (sliceA Tryz.prog 97 x1 (some t1) none) fun x8 =>
   Option.bind (copyA 9 x7 x8 r4.2) fun r9 =>
   Option.bind (sliceA Tryz.prog 97 x1 (some t1) none) fun x10 =>
   Option.bind (copyA 9 x10 t2 r9.2) fun r11 =>
   some (x1, r11.2)) (
   g385_3 x1 t1 t2 t7 t8 r4.2) :=
  goAt_eq 400 (by kernel_rfl)
theorem g385_3_eq (t0 t1 t2 t7 t8 : AV) (m : Mem) : g385_3 t0 t1 t2 t7 t8 m =
  Option.bind (sliceA Tryz.prog 97 t0 (some t8) none) fun x0 =>
  Option.bind (copyA 9 x0 t2 m) fun r1 =>
  Option.bind (sliceA Tryz.prog 97 t0 (some t1) none) fun x2 =>
  Option.bind (run E0 (.fn 440) [x2, t7] r1.2) fun r3 =>
  some (t0, r3.2) :=
  goAt_eq 400 (by kernel_rfl)
theorem f385_eq (a0 a1 a2 : AV) (m : Mem) : run E0 (.fn 385) [a0, a1, a2] m =
  Option.bind (sliceA Tryz.prog 97 a0 (some a1) none) fun _ =>
  Option.bind (lenT Tryz.prog 97 a2) fun x1 =>
  Option.bind (binA Tryz.prog .eql 3 x1 (.int .i64 0)) fun x2 =>
  condA x2 (
   some (a0, m)) (
   g385_0 a0 a1 a2 x1 m) :=
  run_eq 400 rfl (by kernel_rfl) (by kernel_rfl)
noncomputable def g386_0 (t0 t1 t2 t7 : AV) (m : Mem) : R := goAt E0 386 0 ([t0, t1, t2, .undef, .undef, .undef, .undef, t7] ++ List.replicate 87 .undef) m
noncomputable def g386_1 (t0 t1 t2 t7 t8 : AV) (m : Mem) : R := goAt E0 386 1 ([t0, t1, t2, .undef, .undef, .undef, .undef, t7, t8] ++ List.replicate 86 .undef) m
noncomputable def g386_2 (t0 t1 t2 t7 t8 : AV) (m : Mem) : R := goAt E0 386 2 ([t0, t1, t2, .undef, .undef, .undef, .undef, t7, t8] ++ List.replicate 86 .undef) m
noncomputable def g386_3 (t0 t1 t2 t7 t8 : AV) (m : Mem) : R := goAt E0 386 3 ([t0, t1, t2, .undef, .undef, .undef, .undef, t7, t8] ++ List.replicate 86 .undef) m
theorem g386_0_eq (t0 t1 t2 t7 : AV) (m : Mem) : g386_0 t0 t1 t2 t7 m =
  Option.bind (lenT Tryz.prog 96 t0) fun x0 =>
  Option.bind (binA Tryz.prog .eql 3 t1 x0) fun x1 =>
  condA x1 (
   Option.bind (appendA 4 40 t0 t2 m) fun r2 =>
   some (r2.1, r2.2)) (
   g386_1 t0 t1 t2 t7 x0 m) :=
  goAt_eq 400 (by kernel_rfl)
theorem g386_1_eq (t0 t1 t2 t7 t8 : AV) (m : Mem) : g386_1 t0 t1 t2 t7 t8 m =
  Option.bind (binA Tryz.prog .add 3 t8 t7) fun x0 =>
  Option.bind (capT Tryz.prog 96 t0) fun x1 =>
  Option.bind (binA Tryz.prog .gtr 3 x0 x1) fun x2 =>
  condA x2 (
   Option.bind (sliceA Tryz.prog 96 t0 none (some t1)) fun x3 =>
   Option.bind (binA Tryz.prog .add 3 t8 t7) fun x4 =>
   Option.bind (binA Tryz.prog .sub 3 x4 t1) fun x5 =>
   Option.bind (appendZ Tryz.prog 96 x3 x5 m) fun r6 =>
   Option.bind (sliceA Tryz.prog 96 r6.1 (some t1) none) fun x7 =>
   Option.bind (copyA 4 x7 t2 r6.2) fun r8 =>
   Option.bind (binA Tryz.prog .add 3 t1 t7) fun x9 =>
   Option.bind (sliceA Tryz.prog 96 r6.1 (some x9) none) fun x10 =>
   Option.bind (sliceA Tryz.prog 96 t0 (some t1) none) fun x11 =>
   Option.bind (copyA 4 x10 x11 r8.2) fun r12 =>
   some (r6.1, r12.2)) (
   g386_2 t0 t1 t2 t7 t8 m) :=
  goAt_eq 400 (by kernel_rfl)
theorem g386_2_eq (t0 t1 t2 t7 t8 : AV) (m : Mem) : g386_2 t0 t1 t2 t7 t8 m =
  Option.bind (binA Tryz.prog .add 3 t8 t7) fun x0 =>
  Option.bind (sliceA Tryz.prog 96 t0 none (some x0)) fun x1 =>
  Option.bind (binA Tryz.prog .add 3 t1 t7) fun x2 =>
  Option.bind (sliceA Tryz.prog 96 x1 (some x2) none) fun x3 =>
  Option.bind (run E0 (.fn 441) [t2, x3] m) fun r4 =>
  Option.bind (unA .not r4.1) fun x5 =>
  condA x5 (
   Option.bind (binA Tryz.prog .add 3 t1 t7) fun x6 =>
   Option.bind (sliceA Tryz.prog 96 x1 (some x6) none) fun x7 =>
   Option.bind (sliceA Tryz.prog 96 x1 (some t1) none) fun x8 =>
   Option.bind (copyA 4 x7 x8 r4.2) fun r9 =>
   Option.bind (sliceA Tryz.prog 96 x1 (some t1) none) fun x10 =>
   Option.bind (copyA 4 x10 t2 r9.2) fun r11 =>
   some (x1, r11.2)) (
   g386_3 x1 t1 t2 t7 t8 r4.2) :=
  goAt_eq 400 (by kernel_rfl)
theorem g386_3_eq (t0 t1 t2 t7 t8 : AV) (m : Mem) : g386_3 t0 t1 t2 t7 t8 m =
  Option.bind (sliceA Tryz.prog 96 t0 (some t8) none) fun x0 =>
  Option.bind (copyA 4 x0 t2 m) fun r1 =>
  Option.bind (sliceA Tryz.prog 96 t0 (some t1) none) fun x2 =>
  Option.bind (run E0 (.fn 442) [x2, t7] r1.2) fun r3 =>
  some (t0, r3.2) :=
  goAt_eq 400 (by kernel_rfl)
theorem f386_eq (a0 a1 a2 : AV) (m : Mem) : run E0 (.fn 386) [a0, a1, a2] m =
  Option.bind (sliceA Tryz.prog 96 a0 (some a1) none) fun _ =>
  Option.bind (lenT Tryz.prog 96 a2) fun x1 =>
  Option.bind (binA Tryz.prog .eql 3 x1 (.int .i64 0)) fun x2 =>
  condA x2 (
   some (a0, m)) (
   g386_0 a0 a1 a2 x1 m) :=
  run_eq 400 rfl (by kernel_rfl) (by kernel_rfl)
noncomputable def g387_0 (t0 t1 t2 t7 : AV) (m : Mem) : R := goAt E0 387 0 ([t0, t1, t2, .undef, .undef, .undef, .undef, t7] ++ List.replicate 87 .undef) m
noncomputable def g387_1 (t0 t1 t2 t7 t8 : AV) (m : Mem) : R := goAt E0 387 1 ([t0, t1, t2, .undef, .undef, .undef, .undef, t7, t8] ++ List.replicate 86 .undef) m
noncomputable def g387_2 (t0 t1 t2 t7 t8 : AV) (m : Mem) : R := goAt E0 387 2 ([t0, t1, t2, .undef, .undef, .undef, .undef, t7, t8] ++ List.replicate 86 .undef) m
noncomputable def g387_3 (t0 t1 t2 t7 t8 : AV) (m : Mem) : R := goAt E0 387 3 ([t0, t1, t2, .undef, .undef, .undef, .undef, t7, t8] ++ List.replicate 86 .undef) m
theorem g387_0_eq (t0 t1 t2 t7 : AV) (m : Mem) : g387_0 t0 t1 t2 t7 m =
  Option.bind (lenT Tryz.prog 228 t0) fun x0 =>
  Option.bind (binA Tryz.prog .eql 3 t1 x0) fun x1 =>
  condA x1 (
   Option.bind (appendA 4 48 t0 t2 m) fun r2 =>
   some (r2.1, r2.2)) (
   g387_1 t0 t1 t2 t7 x0 m) :=
  goAt_eq 400 (by kernel_rfl)
theorem g387_1_eq (t0 t1 t2 t7 t8 : AV) (m : Mem) : g387_1 t0 t1 t2 t7 t8 m =
  Option.bind (binA Tryz.prog .add 3 t8 t7) fun x0 =>
  Option.bind (capT Tryz.prog 228 t0) fun x1 =>
  Option.bind (binA Tryz.prog .gtr 3 x0 x1) fun x2 =>
  condA x2 (
   Option.bind (sliceA Tryz.prog 228 t0 none (some t1)) fun x3 =>
   Option.bind (binA Tryz.prog .add 3 t8 t7) fun x4 =>
   Option.bind (binA Tryz.prog .sub 3 x4 t1) fun x5 =>
   Option.bind (appendZ Tryz.prog 228 x3 x5 m) fun r6 =>
   Option.bind (sliceA Tryz.prog 228 r6.1 (some t1) none) fun x7 =>
   Option.bind (copyA 4 x7 t2 r6.2) fun r8 =>
   Option.bind (binA Tryz.prog .add 3 t1 t7) fun x9 =>
   Option.bind (sliceA Tryz.prog 228 r6.1 (some x9) none) fun x10 =>
   Option.bind (sliceA Tryz.prog 228 t0 (some t1) none) fun x11 =>
   Option.bind (copyA 4 x10 x11 r8.2) fun r12 =>
   some (r6.1, r12.2)) (
   g387_2 t0 t1 t2 t7 t8 m) :=
  goAt_eq 400 (by kernel_rfl)
theorem g387_2_eq (t0 t1 t2 t7 t8 : AV) (m : Mem) : g387_2 t0 t1 t2 t7 t8 m =
  Option.bind (binA Tryz.prog .add 3 t8 t7) fun x0 =>
  Option.bind (sliceA Tryz.prog 228 t0 none (some x0)) fun x1 =>
  Option.bind (binA Tryz.prog .add 3 t1 t7) fun x2 =>
  Option.bind (sliceA Tryz.prog 228 x1 (some x2) none) fun x3 =>
  Option.bind (run E0 (.fn 443) [t2, x3] m) fun r4 =>
  Option.bind (unA .not r4.1) fun x5 =>
  condA x5 (
   Option.bind (binA Tryz.prog .add 3 t1 t7) fun x6 =>
   Option.bind (sliceA Tryz.prog 228 x1 (some x6) none) fun x7 =>
   Option.bind (sliceA Tryz.prog 228 x1 (some t1) none) fun x8 =>
   Option.bind (copyA 4 x7 x8 r4.2) fun r9 =>
   Option.bind (sliceA Tryz.prog 228 x1 (some t1) none) fun x10 =>
   Option.bind (copyA 4 x10 t2 r9.2) fun r11 =>
   some (x1, r11.2)) (
   g387_3 x1 t1 t2 t7 t8 r4.2) :=
  goAt_eq 400 (by kernel_rfl)
theorem g387_3_eq (t0 t1 t2 t7 t8 : AV) (m : Mem) : g387_3 t0 t1 t2 t7 t8 m =
  Option.bind (sliceA Tryz.prog 228 t0 (some t8) none) fun x0 =>
  Option.bind (copyA 4 x0 t2 m) fun r1 =>
  Option.bind (sliceA Tryz.prog 228 t0 (some t1) none) fun x2 =>
  Option.bind (run E0 (.fn 444) [x2, t7] r1.2) fun r3 =>
  some (t0, r3.2) :=
  goAt_eq 400 (by kernel_rfl)
theorem f387_eq (a0 a1 a2 : AV) (m : Mem) : run E0 (.fn 387) [a0, a1, a2] m =
  Option.bind (sliceA Tryz.prog 228 a0 (some a1) none) fun _ =>
  Option.bind (lenT Tryz.prog 228 a2) fun x1 =>
  Option.bind (binA Tryz.prog .eql 3 x1 (.int .i64 0)) fun x2 =>
  condA x2 (
   some (a0, m)) (
   g387_0 a0 a1 a2 x1 m) :=
  run_eq 400 rfl (by kernel_rfl) (by kernel_rfl)
end Go.Proofs.YtolmealocdgdhaaGreat
end
