/- Memory read, and written. -/
import Derived.Test.YtpoafkipnjfioaaGreatAbs6
import Derived.Laws.IdiomCopy
import Derived.Laws.Append
namespace Go.Abs
open Go

section
variable {P : Program} {p : Phi} {m : Mem} {w : World}

theorem cell_of_arr {c o : Nat} {arr : Array Value} {el : TypeId} {fr : Nat × Nat} (h : w.heap[c]? = some (.cells arr el fr)) : w.cell? ⟨c, o, none⟩ = arr[o]? := by
  simp [World.cell?, h]

/-- A cell that lives. -/
theorem MR.cell (h : MR P p m w) {b : Nat} {cs : List AV} {ci : CI} {ro : Bool} (hm : m.get b = some (.cells cs ro)) (hp : p b = some ci) {i : Nat} {a : AV} (hi : cs[i]? = some a) :
    ∃ v, w.cell? ⟨ci.c, i + ci.d, none⟩ = some v ∧ VR p a v := by
  obtain ⟨arr, el, fr, h1, h2, h3, h4⟩ := h.live b cs ro ci hm hp
  obtain ⟨v, h5, h6⟩ := h4 i a hi
  exact ⟨v, by rw [cell_of_arr h1, Nat.add_comm]; exact h5, h6⟩

theorem ldCells_spec {a : AA} {n : Nat} {vs : List AV} (h : ldCells m a n = some vs) : ∃ cs ro, m.get a.b = some (.cells cs ro) ∧ a.o + n ≤ cs.length ∧ vs = (cs.drop a.o).take n := by
  unfold ldCells at h
  split at h
  · rename_i cs ro hc
    split at h
    · cases h; exact ⟨cs, ro, hc, ‹_›, rfl⟩
    · simp at h
  · simp at h

theorem ldCells_sound (hm : MR P p m w) {a : AA} {ci : CI} (hp : p a.b = some ci) {n : Nat} {vs : List AV} (h : ldCells m a n = some vs) :
    ∃ vs', (∀ w2 : World, w2.heap = w.heap → (loadCells ⟨ci.c, a.o + ci.d, none⟩ n).run P w2 = .ok ⟨vs'⟩ w2) ∧ VRs p vs vs' ∧ vs.length = n ∧ (∀ j v, vs'[j]? = some v → w.cell? ((⟨ci.c, a.o + ci.d, none⟩ : Addr).add j) = some v) := by
  obtain ⟨cs, ro, hc, hle, rfl⟩ := ldCells_spec h
  obtain ⟨arr, el, fr, h1, h2, h3, h4⟩ := hm.live a.b cs ro ci hc hp
  have hlen : ((cs.drop a.o).take n).length = n := by simp; omega
  -- the true cells
  have hex : ∀ j, j < n → ∃ v, arr[ci.d + (a.o + j)]? = some v ∧ VR p (cs.getD (a.o + j) .undef) v := by
    intro j hj
    have : cs[a.o + j]? = some (cs.getD (a.o + j) .undef) := by rw [List.getD_eq_getElem?_getD, List.getElem?_eq_getElem (by omega)]; rfl
    exact h4 _ _ this
  let f : Nat → Value := fun j => (arr[ci.d + (a.o + j)]?).getD undef
  have hf : ∀ j, j < n → w.cell? ((⟨ci.c, a.o + ci.d, none⟩ : Addr).add j) = some (f j) := by
    intro j hj
    obtain ⟨v, hv, _⟩ := hex j hj
    rw [addr_add, cell_of_arr h1]
    simp only [f]
    rw [hv, show a.o + ci.d + j = ci.d + (a.o + j) by omega, hv]; rfl
  refine ⟨(List.range n).map f, fun w2 hw2 => run_loadCells w2 _ n f (fun j hj => by rw [← hf j hj]; simp only [World.cell?, hw2]), VRs.of_get (by simp [hlen]) ?_, hlen, ?_⟩
  · intro i x hi
    have hin : i < n := by
      have := (List.getElem?_eq_some_iff.1 hi).1
      omega
    obtain ⟨v, hv, hr⟩ := hex i hin
    refine ⟨f i, by simp [hin], ?_⟩
    have hx : cs.getD (a.o + i) .undef = x := by
      rw [List.getElem?_take, if_pos hin, List.getElem?_drop] at hi
      rw [List.getD_eq_getElem?_getD, hi]; rfl
    simp only [f, hv, Option.getD_some]
    rw [← hx]; exact hr
  · intro j v hj
    have hjn : j < n := by have := (List.getElem?_eq_some_iff.1 hj).1; simpa using this
    simp [hjn] at hj
    rw [← hj]; exact hf j hjn

theorem loadA_sound (hm : MR P p m w) {t : TypeId} {x : AV} {x' : Value} {v : AV} (hx : VR p x x') (h : loadA P t x m = some v) : Gives P p (Instr.loadAt t x') w v := by
  unfold loadA at h
  split at h
  · simp at h
  rename_i d hd
  unfold Gives Instr.loadAt
  split at h
  · rename_i ha
    obtain ⟨n, hn, h⟩ := Option.bind_eq_some_iff.1 h
    unfold ldN at h
    split at h
    · rename_i a
      obtain ⟨vs, hv, rfl⟩ := Option.map_eq_some_iff.1 h
      simp only [VR] at hx
      obtain ⟨ci, hci, rfl⟩ := hx
      obtain ⟨vs', h1, h2, _⟩ := ldCells_sound (P := P) hm hci hv
      simp only [Sem.run_bind, Instr.sureAddr, Sem.run_pure, Result.andThen_ok, loadVar, run_isAgg hd, ha, if_true, run_size hn, h1 w rfl]
      exact ⟨_, rfl, by simp only [VR]; exact ⟨vs', rfl, h2⟩⟩
    · simp at h
  · rename_i ha
    unfold ld1 at h
    split at h
    · rename_i a
      split at h
      · rename_i cs ro hc
        simp only [VR] at hx
        obtain ⟨ci, hci, rfl⟩ := hx
        obtain ⟨cv, h1, h2⟩ := hm.cell hc hci h
        simp only [Sem.run_bind, Instr.sureAddr, Sem.run_pure, Result.andThen_ok, loadVar, run_isAgg hd, ha, if_false, Bool.false_eq_true]
        rw [run_load, h1]
        exact ⟨cv, rfl, h2⟩
      · simp at h
    · simp at h

/-- The bytes of cells. -/
theorem bytesA_sound : ∀ {cs : List AV} {cs' : List Value} {bs : List UInt8}, VRs p cs cs' → bytesA cs = some bs → ∀ (pre : ByteArray),
    (forIn cs' pre (fun c (s : ByteArray) => (do let .int .u8 n := c | stuck "bytesToString: byte expected"
                                                 pure (.yield (s.push (UInt8.ofNat n.toNat))) : Sem (ForInStep ByteArray)))).run P w = .ok ⟨⟨pre.data.toList ++ bs⟩⟩ w
  | [], _, bs, h, hb, pre => by
    simp only [VRs] at h; subst h
    simp only [bytesA, Option.some.injEq] at hb; subst hb
    cases pre; rename_i d; cases d
    simp
  | a :: as, _, bs, h, hb, pre => by
    simp only [VRs] at h
    obtain ⟨v, vs, rfl, h1, h2⟩ := h
    cases a <;> first | (exact absurd hb (by simp [bytesA])) | skip
    rename_i k n
    by_cases hk : k = .u8
    case neg => exfalso; revert hb; cases k <;> first | (simp [bytesA]; done) | exact absurd rfl hk
    subst hk
    simp only [bytesA] at hb
    obtain ⟨bs', hb', rfl⟩ := Option.map_eq_some_iff.1 hb
    simp only [VR] at h1; subst h1
    rw [List.forIn_cons]
    simp only [Sem.run_bind, Sem.run_pure, Result.andThen_ok]
    rw [bytesA_sound h2 hb' _]
    congr 2
    simp [ByteArray.push]

theorem toStrA_sound (hm : MR P p m w) {src dst : TypeId} {x : AV} {x' : Value} {v : AV} (hx : VR p x x') (hdst : P.underlying dst = some .string) (h : toStrA P src x m = some v) :
    Gives P p (convert src dst x') w v := by
  unfold toStrA at h
  split at h
  · rename_i e hd
    split at h
    · rename_i he
      unfold Gives
      split at h
      · cases h
        simp only [VR] at hx
        obtain ⟨_, _, rfl⟩ := hx
        refine ⟨.string .empty, ?_, by simp only [VR]; rfl⟩
        simp only [convert, Sem.run_bind, run_under hd, run_under hdst, Result.andThen_ok, run_under he, Conv.bytesToString, Sem.run_pure]
      · rename_i a sz len cap ex
        obtain ⟨bs, hb, rfl⟩ := Option.map_eq_some_iff.1 h
        obtain ⟨cs, hcs, hbs⟩ := Option.bind_eq_some_iff.1 hb
        simp only [VR, SR] at hx
        obtain ⟨ci, off, cap', hci, rfl, hlc, hcc, _, _, hoff⟩ := hx
        by_cases hl : len = 0
        · subst hl
          obtain ⟨_, _, _, _, rfl⟩ := ldCells_spec hcs
          simp only [List.take_zero, bytesA, Option.some.injEq] at hbs; subst hbs
          refine ⟨.string .empty, ?_, by simp only [VR]; rfl⟩
          simp only [convert, Sem.run_bind, run_under hd, run_under hdst, Result.andThen_ok, run_under he, Conv.bytesToString]
          simp [loadCells, loadCellsFrom]
        · have e : off = a.o + ci.d := hoff (by omega)
          subst e
          obtain ⟨vs', h1, h2, _⟩ := ldCells_sound (P := P) hm hci hcs
          refine ⟨.string ⟨⟨bs⟩⟩, ?_, by simp only [VR]⟩
          simp only [convert, Sem.run_bind, run_under hd, run_under hdst, Result.andThen_ok, run_under he, Conv.bytesToString, h1 w rfl]
          have := bytesA_sound (P := P) (w := w) h2 hbs .empty
          simp only [List.forIn_toArray] at *
          erw [this]
          simp
      · simp at h
    · simp at h
  · simp at h

/-! Maps. -/
theorem str_beq (a b : List UInt8) : ((⟨⟨a⟩⟩ : ByteArray) == ⟨⟨b⟩⟩) = (a == b) := by
  have : (⟨a⟩ : Array UInt8) = ⟨b⟩ ↔ a = b := ⟨fun h => by injection h, fun h => by rw [h]⟩
  show ((⟨a⟩ : Array UInt8) == ⟨b⟩) = (a == b)
  rw [Bool.eq_iff_iff]
  simp
theorem keyEq_sound {d : TypeDesc} {k k' : AV} {c c' : Value} {b : Bool} (h : VR p k c) (h' : VR p k' c') (e : keyEq d k k' = some b) : Instr.sameNow d c c' = some b := by
  unfold keyEq at e
  split at e
  · simp only [VR] at h h'
    subst h h'
    split at e
    · simpa [Instr.sameNow] using e
    · cases e
  · simp only [VR] at h h'
    subst h h'
    split at e
    · rename_i a b' _
      simp only [Instr.sameNow]
      rw [← e]
      congr 1
      exact str_beq a b'
    · cases e
  · cases e

theorem ER.perm : ∀ {l : List (AV × AV)} {ces : List MapEntry}, ER p l ces → ∀ {es : List (AV × AV)}, l.Perm es → ∃ ces', ces.Perm ces' ∧ ER p es ces' := by
  intro l ces h es hp
  induction hp generalizing ces with
  | nil => exact ⟨ces, .refl _, h⟩
  | cons x _ ih =>
    obtain ⟨k, v⟩ := x
    simp only [ER] at h
    obtain ⟨e, es', rfl, h1, h2, h3⟩ := h
    obtain ⟨c', h4, h5⟩ := ih h3
    exact ⟨e :: c', h4.cons _, by simp only [ER]; exact ⟨e, c', rfl, h1, h2, h5⟩⟩
  | swap x y l =>
    obtain ⟨k, v⟩ := x
    obtain ⟨k2, v2⟩ := y
    simp only [ER] at h
    obtain ⟨e, es', rfl, h1, h2, e2, es2, rfl, h3, h4, h5⟩ := h
    exact ⟨e2 :: e :: es2, .swap _ _ _, by simp only [ER]; exact ⟨e2, _, rfl, h3, h4, e, _, rfl, h1, h2, h5⟩⟩
  | trans _ _ ih1 ih2 =>
    obtain ⟨c1, h1, h2⟩ := ih1 h
    obtain ⟨c2, h3, h4⟩ := ih2 h2
    exact ⟨c2, h1.trans h3, h4⟩

/-- All entries can be held against a key, and at most one is the same. -/
def Once (d : TypeDesc) (c : Value) (es : List MapEntry) (r : Option MapEntry) : Prop :=
  (∀ e ∈ es, ∃ b, Instr.sameNow d c e.key = some b) ∧
  match r with
  | none => ∀ e ∈ es, Instr.sameNow d c e.key = some false
  | some x => x ∈ es ∧ Instr.sameNow d c x.key = some true ∧ ∀ es1 es2, es = es1 ++ x :: es2 → (∀ e ∈ es1, Instr.sameNow d c e.key = some false) ∧ ∀ e ∈ es2, Instr.sameNow d c e.key = some false

theorem mget_all {d : TypeDesc} {k : AV} {c : Value} (hk : VR p k c) : ∀ {l : List (AV × AV)} {ces : List MapEntry} {r : Option AV}, ER p l ces → mget d k l = some r →
    (∀ e ∈ ces, ∃ b, Instr.sameNow d c e.key = some b) ∧ (r = none → ∀ e ∈ ces, Instr.sameNow d c e.key = some false) ∧
    ∀ v, r = some v → ∃ e1 x e2, ces = e1 ++ x :: e2 ∧ (∀ e ∈ e1, Instr.sameNow d c e.key = some false) ∧ (∀ e ∈ e2, Instr.sameNow d c e.key = some false) ∧ Instr.sameNow d c x.key = some true ∧ VR p v x.val
  | [], ces, r, h, e => by
    simp only [ER] at h; subst h
    simp only [mget, Option.some.injEq] at e; subst e
    simp
  | (k', v) :: l, ces, r, h, e => by
    simp only [ER] at h
    obtain ⟨x, xs, rfl, h1, h2, h3⟩ := h
    simp only [mget] at e
    split at e
    · rename_i e1 e2
      cases e
      obtain ⟨g1, g2, _⟩ := mget_all hk h3 e2
      have hx := keyEq_sound hk h1 e1
      refine ⟨fun y hy => ?_, by simp, fun v' hv => ?_⟩
      · rcases List.mem_cons.1 hy with rfl | hy
        · exact ⟨_, hx⟩
        · exact g1 y hy
      · cases hv
        exact ⟨[], x, xs, rfl, by simp, g2 rfl, hx, h2⟩
    · rename_i r' e1 e2
      cases e
      obtain ⟨g1, g2, g3⟩ := mget_all hk h3 e2
      have hx := keyEq_sound hk h1 e1
      refine ⟨fun y hy => ?_, fun hr y hy => ?_, fun v' hv => ?_⟩
      · rcases List.mem_cons.1 hy with rfl | hy
        · exact ⟨_, hx⟩
        · exact g1 y hy
      · rcases List.mem_cons.1 hy with rfl | hy
        · exact hx
        · exact g2 hr y hy
      · obtain ⟨l1, y, l2, rfl, f1, f2, f3⟩ := g3 v' hv
        refine ⟨x :: l1, y, l2, rfl, fun z hz => ?_, f2, f3⟩
        rcases List.mem_cons.1 hz with rfl | hz
        · exact hx
        · exact f1 z hz
    · cases e

theorem findNow_none {d : TypeDesc} {c : Value} : ∀ {es : List MapEntry} {i : Nat}, (∀ e ∈ es, Instr.sameNow d c e.key = some false) → Instr.findNow d c es i = some none
  | [], _, _ => rfl
  | e :: es, i, h => by
    simp only [Instr.findNow, h e (by simp)]
    exact findNow_none fun x hx => h x (by simp [hx])
theorem findNow_some {d : TypeDesc} {c : Value} {x : MapEntry} (hx : Instr.sameNow d c x.key = some true) : ∀ {e1 e2 : List MapEntry} {i : Nat}, (∀ e ∈ e1, Instr.sameNow d c e.key = some false) → Instr.findNow d c (e1 ++ x :: e2) i = some (some (i + e1.length, x.val))
  | [], e2, i, _ => by simp [Instr.findNow, hx]
  | e :: e1, e2, i, h => by
    simp only [List.cons_append, Instr.findNow, h e (by simp)]
    rw [findNow_some hx fun x hx => h x (by simp [hx])]
    simp only [List.length_cons]
    congr 3; omega

/-- Where it is among entries in another order. -/
theorem split_perm {d : TypeDesc} {c : Value} {l1 l2 : List MapEntry} {x : MapEntry} (h1 : ∀ e ∈ l1, Instr.sameNow d c e.key = some false) (h2 : ∀ e ∈ l2, Instr.sameNow d c e.key = some false) {ces : List MapEntry} (hp : ces.Perm (l1 ++ x :: l2)) :
    ∃ e1 e2, ces = e1 ++ x :: e2 ∧ (e1 ++ e2).Perm (l1 ++ l2) ∧ (∀ e ∈ e1, Instr.sameNow d c e.key = some false) ∧ ∀ e ∈ e2, Instr.sameNow d c e.key = some false := by
  have hx : x ∈ ces := hp.mem_iff.2 (by simp)
  obtain ⟨e1, e2, rfl⟩ := List.append_of_mem hx
  have hp' : (e1 ++ e2).Perm (l1 ++ l2) := by
    have a : (e1 ++ x :: e2).Perm (x :: (e1 ++ e2)) := List.perm_middle
    have b : (l1 ++ x :: l2).Perm (x :: (l1 ++ l2)) := List.perm_middle
    exact List.Perm.cons_inv (a.symm.trans (hp.trans b))
  refine ⟨e1, e2, rfl, hp', fun e he => ?_, fun e he => ?_⟩
  · have := hp'.mem_iff.1 (List.mem_append_left e2 he)
    rcases List.mem_append.1 this with h | h
    · exact h1 e h
    · exact h2 e h
  · have := hp'.mem_iff.1 (List.mem_append_right e1 he)
    rcases List.mem_append.1 this with h | h
    · exact h1 e h
    · exact h2 e h

theorem keyEq_kind {d : TypeDesc} {k : AV} {b : Bool} {c : Value} (hk : VR p k c) (e : keyEq d k k = some b) : ((∃ i, d = .int i) ∨ d = .string) ∧ (∀ cs, c ≠ .agg cs) := by
  unfold keyEq at e
  split at e
  · simp only [VR] at hk; subst hk
    split at e
    · exact ⟨.inl ⟨_, rfl⟩, by simp⟩
    · cases e
  · simp only [VR] at hk; subst hk
    split at e
    · exact ⟨.inr rfl, by simp⟩
    · cases e
  · cases e
theorem run_checkKey {empty : Bool} {n : Nat} {t : TypeId} {v : Value} {d : TypeDesc} (hd : P.underlying t = some d) (h : (∃ i, d = .int i) ∨ d = .string) : (Instr.checkKey empty (n + 1) t v).run P w = .ok () w := by
  simp only [Instr.checkKey, Sem.run_bind, run_under hd, Result.andThen_ok]
  rcases h with ⟨i, rfl⟩ | rfl <;> rfl
theorem run_findKey {t : TypeId} {c : Value} {d : TypeDesc} (hd : P.underlying t = some d) {es : List MapEntry} {r : Option (Nat × Value)} (h : Instr.findNow d c es 0 = some r) : (Instr.findKey t c es).run P w = .ok r w := by
  simp only [Instr.findKey, Sem.run_bind, run_under hd, Result.andThen_ok, h, Sem.run_pure]

theorem zeroV_sound {t : TypeId} {v : AV} (h : zeroV P t = some v) : ∃ z, (zeroValue t).run P w = .ok z w ∧ VR p v z := by
  unfold zeroV at h
  obtain ⟨z, h1, h2⟩ := Option.bind_eq_some_iff.1 h
  obtain ⟨i, h3, h4⟩ := Option.bind_eq_some_iff.1 h1
  refine ⟨z, ?_, ofV_VR p h2⟩
  simp only [zeroValue, Sem.run_bind, run_info h3, Result.andThen_ok, h4, Sem.run_pure]

theorem run_getObj {r : Nat} {o : Obj} (h : w.heap[r]? = some o) (hn : ∀ c e f, o ≠ .cells c e f) : (getObj r).run P w = .ok o w := by
  cases o <;> first | exact absurd rfl (hn _ _ _) | simp [getObj, Sem.run, h]
theorem run_setObj {r : Nat} {o o' : Obj} (h : w.heap[r]? = some o) (hn : ∀ c e f, o ≠ .cells c e f) : (setObj r o').run P w = .ok () { w with heap := w.heap.setIfInBounds r o' } := by
  cases o <;> first | exact absurd rfl (hn _ _ _) | simp [setObj, Sem.run, h]
/-- A map that is read. -/
theorem mapOf_sound (hm : MR P p m w) {x : AV} {x' : Value} (hx : VR p x x') {es : List (AV × AV)} (h : mapOf m x = some es) :
    ∃ ces : Array MapEntry, (x' = .map none ∧ ces = #[] ∨ ∃ r clock, x' = .map (some r) ∧ w.heap[r]? = some (.map ces clock)) ∧ ∃ l, l.Perm es ∧ ER p l ces.toList := by
  unfold mapOf at h
  split at h
  · cases h
    simp only [VR] at hx; subst hx
    exact ⟨#[], .inl ⟨rfl, rfl⟩, [], .refl _, by simp [ER]⟩
  · rename_i b
    split at h
    · rename_i es' hb
      cases h
      simp only [VR] at hx
      obtain ⟨ci, h1, rfl⟩ := hx
      obtain ⟨o, h2, ces, clock, rfl, h3, _⟩ := hm.has b _ ci hb h1
      exact ⟨ces, .inr ⟨_, _, rfl, h2⟩, h3⟩
    · cases h
  · cases h

theorem lookupA_sound (hm : MR P p m w) {t : TypeId} {x k : AV} {x' k' : Value} {ok : Bool} {v : AV} (hx : VR p x x') (hk : VR p k k') (h : lookupA P t x k ok m = some v) : Gives P p (Instr.lookup t x' k' ok) w v := by
  unfold lookupA at h
  split at h
  · rename_i key elem hd
    obtain ⟨d, h1, h⟩ := Option.bind_eq_some_iff.1 h
    obtain ⟨es, h2, h⟩ := Option.bind_eq_some_iff.1 h
    obtain ⟨bb, h3, h⟩ := Option.bind_eq_some_iff.1 h
    obtain ⟨r, h4, h⟩ := Option.bind_eq_some_iff.1 h
    obtain ⟨ces, h5, l, h6, h7⟩ := mapOf_sound hm hx h2
    obtain ⟨ces', h8, h9⟩ := h7.perm h6
    have hkind := (keyEq_kind hk h3).1
    obtain ⟨g1, g2, g3⟩ := mget_all hk h9 h4
    have fin : ∀ (r' : Option (Nat × Value)), Instr.findNow d k' ces.toList 0 = some r' → ∀ cv : Value × Bool, (match r' with
        | some (_, v) => (pure (v, true) : Sem (Value × Bool))
        | none => do pure (← zeroValue elem, false)).run P w = .ok cv w → (Instr.lookup t x' k' ok).run P w = .ok (if ok then .tuple #[cv.1, .bool cv.2] else cv.1) w := by
      intro r' hr cv hcv
      unfold Instr.lookup
      rcases h5 with ⟨rfl, rfl⟩ | ⟨r0, clock, rfl, h5⟩
      · simp only [Sem.run_bind, run_under hd, Result.andThen_ok, Sem.run_pure, run_checkKey h1 hkind, run_findKey h1 hr]
        cases r' with
        | none =>
          simp only [Sem.run_bind] at hcv ⊢
          cases hz : (zeroValue elem).run P w with
          | ok z w2 => rw [hz] at hcv; simp only [Result.andThen_ok, Sem.run_pure] at hcv ⊢; cases hcv; simp
          | halt x w2 => rw [hz] at hcv; simp at hcv
        | some y => simp only [Sem.run_pure] at hcv; cases hcv; simp
      · simp only [Sem.run_bind, run_under hd, Result.andThen_ok, run_getObj h5 (by simp), Sem.run_pure, run_checkKey h1 hkind, run_findKey h1 hr]
        cases r' with
        | none =>
          simp only [Sem.run_bind] at hcv ⊢
          cases hz : (zeroValue elem).run P w with
          | ok z w2 => rw [hz] at hcv; simp only [Result.andThen_ok, Sem.run_pure] at hcv ⊢; cases hcv; simp
          | halt x w2 => rw [hz] at hcv; simp at hcv
        | some y => simp only [Sem.run_pure] at hcv; cases hcv; simp
    cases r with
    | none =>
      have hn : Instr.findNow d k' ces.toList 0 = some none := findNow_none fun e he => g2 rfl e (h8.mem_iff.1 he)
      obtain ⟨z0, hz, rfl⟩ := Option.map_eq_some_iff.1 h
      obtain ⟨z, h10, h11⟩ := zeroV_sound (p := p) (w := w) hz
      refine ⟨_, fin none hn (z, false) (by simp [h10]), ?_⟩
      cases ok
      · simpa using h11
      · simp only [if_true, VR, VRs]
        exact ⟨_, rfl, z, _, rfl, h11, .bool false, [], rfl, rfl, rfl⟩
    | some u =>
      obtain ⟨l1, y, l2, rfl, f1, f2, f3, f4⟩ := g3 u rfl
      obtain ⟨e1, e2, he, _, q1, _⟩ := split_perm f1 f2 h8
      have hs : Instr.findNow d k' ces.toList 0 = some (some (0 + e1.length, y.val)) := by rw [he]; exact findNow_some f3 q1
      cases h
      refine ⟨_, fin _ hs (y.val, true) rfl, ?_⟩
      cases ok
      · simpa using f4
      · simp only [if_true, VR, VRs]
        exact ⟨_, rfl, y.val, _, rfl, f4, .bool true, [], rfl, rfl, rfl⟩
  · cases h

theorem lenM_sound (hm : MR P p m w) {t : TypeId} {x : AV} {x' : Value} {v : AV} (hx : VR p x x') (h : lenM P t x m = some v) (ty : TypeId) : Gives P p (Builtin.len_ #[t] ty #[x']) w v := by
  unfold lenM at h
  split at h
  · rename_i key elem hd
    obtain ⟨es, h2, rfl⟩ := Option.map_eq_some_iff.1 h
    obtain ⟨ces, h5, l, h6, h7⟩ := mapOf_sound hm hx h2
    have hl : ∀ {l : List (AV × AV)} {c : List MapEntry}, ER p l c → c.length = l.length := by
      intro l
      induction l with
      | nil => intro c h; simp only [ER] at h; simp [h]
      | cons x l ih =>
        intro c h
        obtain ⟨k, v⟩ := x
        simp only [ER] at h
        obtain ⟨e, es', rfl, _, _, h3⟩ := h
        simp [ih h3]
    have hl2 : ces.size = es.length := by rw [← h6.length_eq, ← hl h7]; simp
    rcases h5 with ⟨rfl, rfl⟩ | ⟨r0, clock, rfl, h5⟩
    · have : es.length = 0 := by simpa using hl2.symm
      exact ⟨.int .i64 0, by simp [Builtin.len_, run_under hd, goInt], by simp [VR, this]⟩
    · exact ⟨.int .i64 ces.size, by simp [Builtin.len_, run_under hd, run_getObj h5 (by simp), goInt], by simp [VR, hl2]⟩
  · cases h

/-- AN OPERATION THAT READS. -/
theorem read_sound (hm : MR P p m w) {o : Oper} {t : List AV} {a : Act} (ht : VRs p t a.tmps.toList) (hc : cls P o.op = .r) {v : AV} (h : readOp P o.op t m = some v) :
    ∃ cv, (execOp a.eval o).run P w = .ok (.value cv) w ∧ VR p v cv := by
  have E : ∀ {x : Operand} {v : AV}, ev P t x = some v → VR p v (a.eval x) := fun h => ev_VR ht hm.glob h
  have ho : ∃ op, o.op = op := ⟨_, rfl⟩
  obtain ⟨op, ho⟩ := ho
  rw [ho] at h hc
  unfold readOp at h
  split at h
  · obtain ⟨x, h1, h⟩ := Option.bind_eq_some_iff.1 h
    simp only [execOp, ho]
    exact (loadA_sound hm (E h1) h).value
  · rename_i src dst xo
    obtain ⟨x, h1, h⟩ := Option.bind_eq_some_iff.1 h
    have hdst : P.underlying dst = some .string := by
      simp only [cls] at hc
      split at hc
      · assumption
      · cases hc
      · cases hc
    simp only [execOp, ho]
    exact (toStrA_sound hm (E h1) hdst h).value
  · obtain ⟨x, h1, h⟩ := Option.bind_eq_some_iff.1 h
    obtain ⟨k, h2, h⟩ := Option.bind_eq_some_iff.1 h
    simp only [execOp, ho]
    exact (lookupA_sound hm (E h1) (E h2) h).value
  · obtain ⟨x, h1, h⟩ := Option.bind_eq_some_iff.1 h
    simp only [execOp, ho]
    rw [builtin_call]; exact (lenM_sound hm (E h1) h o.type).value
  · simp at h

/-! Writing. -/
theorem setCells_spec (b : Nat) : ∀ (vs : List Value) (o : Nat) (w : World) {arr : Array Value} {el : TypeId} {fr : Nat × Nat}, w.heap[b]? = some (.cells arr el fr) → o + vs.length ≤ arr.size →
    ∃ arr', (w.setCells b o vs).heap[b]? = some (.cells arr' el fr) ∧ arr'.size = arr.size ∧ (∀ i, arr'[i]? = if o ≤ i ∧ i < o + vs.length then vs[i - o]? else arr[i]?) ∧
      (∀ c, c ≠ b → (w.setCells b o vs).heap[c]? = w.heap[c]?) ∧ (w.setCells b o vs).heap.size = w.heap.size ∧ (w.setCells b o vs).os = w.os ∧ (w.setCells b o vs).output = w.output ∧ (w.setCells b o vs).tape = w.tape
  | [], o, w, arr, el, fr, h, _ => ⟨arr, h, rfl, fun i => by rw [if_neg (by simp only [List.length_nil]; omega)], fun _ _ => rfl, rfl, rfl, rfl, rfl⟩
  | v :: vs, o, w, arr, el, fr, h, hl => by
    simp only [List.length_cons] at hl
    have h1 : (w.setCell ⟨b, o, none⟩ v).heap[b]? = some (.cells (arr.setIfInBounds o v) el fr) := by
      simp only [World.setCell, Array.getElem?_modify, if_true, h]
      rfl
    obtain ⟨arr', e1, e2, e3, e4, e5, e6, e7, e8⟩ := setCells_spec b vs (o + 1) (w.setCell ⟨b, o, none⟩ v) h1 (by simp; omega)
    refine ⟨arr', e1, by rw [e2]; simp, fun i => ?_, fun c hc => ?_, ?_, e6.trans rfl, e7.trans rfl, e8.trans rfl⟩
    · rw [e3 i]
      simp only [List.length_cons]
      by_cases hi : i = o
      · subst hi
        rw [if_neg (by omega), if_pos (by omega)]
        simp [Array.getElem?_setIfInBounds_self]; try omega
      · by_cases hr : o + 1 ≤ i ∧ i < o + 1 + vs.length
        · rw [if_pos hr, if_pos (by omega)]
          obtain ⟨j, rfl⟩ : ∃ j, i = o + 1 + j := ⟨i - (o + 1), by omega⟩
          rw [show o + 1 + j - (o + 1) = j by omega, show o + 1 + j - o = j + 1 by omega, List.getElem?_cons_succ]
        · rw [if_neg hr, if_neg (by omega), Array.getElem?_setIfInBounds_ne (by omega)]
    · rw [World.setCells, e4 c hc]
      simp only [World.setCell, Array.getElem?_modify]
      rw [if_neg (fun e => hc e.symm)]
    · rw [World.setCells, e5]; simp [World.setCell]

/-- Cells stored: the world behind. -/
theorem storeCells_run {c off : Nat} {vs : List Value} {arr : Array Value} {el : TypeId} {fr : Nat × Nat} (h : w.heap[c]? = some (.cells arr el fr)) (hl : off + vs.length ≤ arr.size)
    (hf : ∀ i, ¬ (fr.1 ≤ i ∧ i < fr.2)) (h1 : ∀ v ∈ vs, v.oneCell' = true) : (storeCells ⟨c, off, none⟩ vs).run P w = .ok () (w.setCells c off vs) := by
  have := run_storeCells_cells (P := P) c off vs 0 w (fun j hj => by
      rw [cell_of_arr h]; simp; omega) (fun j hj => by
      simp only [World.frozen?, h]
      have := hf (off + 0 + j)
      simpa using this) h1
  simpa using this

/-- A block's content turned, in place. -/
theorem Sim.turn (h : MR P p m w) {b : Nat} {cs cs' : List AV} {ci : CI} (hb : m.get b = some (.cells cs false)) (hp : p b = some ci) {w' : World} {arr : Array Value} {el : TypeId} {fr : Nat × Nat}
    (hw : w'.heap[ci.c]? = some (.cells arr el fr)) (hn : arr.size = ci.n) (hf : ∀ i, ¬ (fr.1 ≤ i ∧ i < fr.2))
    (hcs : ∀ (i : Nat) a, cs'[i]? = some a → ∃ v, arr[ci.d + i]? = some v ∧ VR p a v) (ho : ∀ c, c ≠ ci.c → w'.heap[c]? = w.heap[c]?) (hs : w'.heap.size = w.heap.size)
    (e1 : w'.os = w.os) (e2 : w'.output = w.output) (e3 : w'.tape = w.tape) : Sim P p m w p (m.put b (some (.cells cs' false))) w' := by
  exact Sim.turnV h hb (by simp) hp hw ho hs e1 e2 e3 fun x hx => by cases hx; exact ⟨arr, el, fr, rfl, hn, fun _ => hf, hcs⟩

/-- A block forgotten. -/
theorem Sim.kill (h : MR P p m w) {b : Nat} {ci : CI} {cs : List AV} (hb : m.get b = some (.cells cs false)) (hp : p b = some ci) : Sim P p m w p (m.put b none) w := by
  obtain ⟨o, ho, _⟩ := h.has b _ ci hb hp
  exact Sim.turnV h hb (by simp) hp ho (fun _ _ => rfl) rfl rfl rfl rfl (by simp)
end
end Go.Abs
