/- Memory read, and written. -/
import Derived.Test.YtamooapjonlcdaaAbs6
import Derived.Laws.IdiomCopy
import Derived.Laws.Append
namespace Go.Abs
open Go

section
variable {P : Program} {G : Nat} {p : Phi} {m : Mem} {w : World}

theorem cell_of_arr {c o : Nat} {arr : Array Value} {el : TypeId} {fr : Nat × Nat} (h : w.heap[c]? = some (.cells arr el fr)) : w.cell? ⟨c, o, none⟩ = arr[o]? := by
  simp [World.cell?, h]

/-- A cell that lives. -/
theorem MR.cell (h : MR G p m w) {b : Nat} {cs : List AV} {ci : CI} {ro : Bool} (hm : m.get b = some (.cells cs ro)) (hp : p b = some ci) {i : Nat} {a : AV} (hi : cs[i]? = some a) :
    ∃ v, w.cell? ⟨ci.c, i + ci.d, none⟩ = some v ∧ VR p a v := by
  obtain ⟨arr, el, fr, h1, h2, h3, h4⟩ := h.live b cs ro ci hm hp
  obtain ⟨v, h5, h6⟩ := h4 i a hi
  exact ⟨v, by rw [cell_of_arr h1, Nat.add_comm]; exact h5, h6⟩

theorem ldCells_spec {a : AA} {n : Nat} {vs : List AV} (h : ldCells m a n = some vs) : ∃ cs ro, m.get a.b = some (.cells cs ro) ∧ a.o + n ≤ cs.length ∧ vs = (cs.drop a.o).take n := by
  unfold ldCells at h
  split at h
  · rename_i cs ro hc
    split at h
    · cases h; exact ⟨cs, ro, hc, ‹_›, rfl⟩
    · simp at h
  · simp at h

theorem ldCells_sound (hm : MR G p m w) {a : AA} {ci : CI} (hp : p a.b = some ci) {n : Nat} {vs : List AV} (h : ldCells m a n = some vs) :
    ∃ vs', (∀ w2 : World, w2.heap = w.heap → (loadCells ⟨ci.c, a.o + ci.d, none⟩ n).run P w2 = .ok ⟨vs'⟩ w2) ∧ VRs p vs vs' ∧ vs.length = n ∧ (∀ j v, vs'[j]? = some v → w.cell? ((⟨ci.c, a.o + ci.d, none⟩ : Addr).add j) = some v) := by
  obtain ⟨cs, ro, hc, hle, rfl⟩ := ldCells_spec h
  obtain ⟨arr, el, fr, h1, h2, h3, h4⟩ := hm.live a.b cs ro ci hc hp
  have hlen : ((cs.drop a.o).take n).length = n := by simp; omega
  -- the true cells
  have hex : ∀ j, j < n → ∃ v, arr[ci.d + (a.o + j)]? = some v ∧ VR p (cs.getD (a.o + j) .undef) v := by
    intro j hj
    have : cs[a.o + j]? = some (cs.getD (a.o + j) .undef) := by rw [List.getD_eq_getElem?_getD, List.getElem?_eq_getElem (by omega)]; rfl
    exact h4 _ _ this
  let f : Nat → Value := fun j => (arr[ci.d + (a.o + j)]?).getD undef
  have hf : ∀ j, j < n → w.cell? ((⟨ci.c, a.o + ci.d, none⟩ : Addr).add j) = some (f j) := by
    intro j hj
    obtain ⟨v, hv, _⟩ := hex j hj
    rw [addr_add, cell_of_arr h1]
    simp only [f]
    rw [hv, show a.o + ci.d + j = ci.d + (a.o + j) by omega, hv]; rfl
  refine ⟨(List.range n).map f, fun w2 hw2 => run_loadCells w2 _ n f (fun j hj => by rw [← hf j hj]; simp only [World.cell?, hw2]), VRs.of_get (by simp [hlen]) ?_, hlen, ?_⟩
  · intro i x hi
    have hin : i < n := by
      have := (List.getElem?_eq_some_iff.1 hi).1
      omega
    obtain ⟨v, hv, hr⟩ := hex i hin
    refine ⟨f i, by simp [hin], ?_⟩
    have hx : cs.getD (a.o + i) .undef = x := by
      rw [List.getElem?_take, if_pos hin, List.getElem?_drop] at hi
      rw [List.getD_eq_getElem?_getD, hi]; rfl
    simp only [f, hv, Option.getD_some]
    rw [← hx]; exact hr
  · intro j v hj
    have hjn : j < n := by have := (List.getElem?_eq_some_iff.1 hj).1; simpa using this
    simp [hjn] at hj
    rw [← hj]; exact hf j hjn

theorem loadA_sound (hm : MR G p m w) {t : TypeId} {x : AV} {x' : Value} {v : AV} (hx : VR p x x') (h : loadA P t x m = some v) : Gives P p (Instr.loadAt t x') w v := by
  unfold loadA at h
  split at h
  · simp at h
  rename_i d hd
  unfold Gives Instr.loadAt
  split at h
  · rename_i ha
    obtain ⟨n, hn, h⟩ := Option.bind_eq_some_iff.1 h
    unfold ldN at h
    split at h
    · rename_i a
      obtain ⟨vs, hv, rfl⟩ := Option.map_eq_some_iff.1 h
      simp only [VR] at hx
      obtain ⟨ci, hci, rfl⟩ := hx
      obtain ⟨vs', h1, h2, _⟩ := ldCells_sound (P := P) hm hci hv
      simp only [Sem.run_bind, Instr.sureAddr, Sem.run_pure, Result.andThen_ok, loadVar, run_isAgg hd, ha, if_true, run_size hn, h1 w rfl]
      exact ⟨_, rfl, by simp only [VR]; exact ⟨vs', rfl, h2⟩⟩
    · simp at h
  · rename_i ha
    unfold ld1 at h
    split at h
    · rename_i a
      split at h
      · rename_i cs ro hc
        simp only [VR] at hx
        obtain ⟨ci, hci, rfl⟩ := hx
        obtain ⟨cv, h1, h2⟩ := hm.cell hc hci h
        simp only [Sem.run_bind, Instr.sureAddr, Sem.run_pure, Result.andThen_ok, loadVar, run_isAgg hd, ha, if_false, Bool.false_eq_true]
        rw [run_load, h1]
        exact ⟨cv, rfl, h2⟩
      · simp at h
    · simp at h

/-- The bytes of cells. -/
theorem bytesA_sound : ∀ {cs : List AV} {cs' : List Value} {bs : List UInt8}, VRs p cs cs' → bytesA cs = some bs → ∀ (pre : ByteArray),
    (forIn cs' pre (fun c (s : ByteArray) => (do let .int .u8 n := c | stuck "bytesToString: byte expected"
                                                 pure (.yield (s.push (UInt8.ofNat n.toNat))) : Sem (ForInStep ByteArray)))).run P w = .ok ⟨⟨pre.data.toList ++ bs⟩⟩ w
  | [], _, bs, h, hb, pre => by
    simp only [VRs] at h; subst h
    simp only [bytesA, Option.some.injEq] at hb; subst hb
    cases pre; rename_i d; cases d
    simp
  | a :: as, _, bs, h, hb, pre => by
    simp only [VRs] at h
    obtain ⟨v, vs, rfl, h1, h2⟩ := h
    cases a <;> first | (exact absurd hb (by simp [bytesA])) | skip
    rename_i k n
    by_cases hk : k = .u8
    case neg => exfalso; revert hb; cases k <;> first | (simp [bytesA]; done) | exact absurd rfl hk
    subst hk
    simp only [bytesA] at hb
    obtain ⟨bs', hb', rfl⟩ := Option.map_eq_some_iff.1 hb
    simp only [VR] at h1; subst h1
    rw [List.forIn_cons]
    simp only [Sem.run_bind, Sem.run_pure, Result.andThen_ok]
    rw [bytesA_sound h2 hb' _]
    congr 2
    simp [ByteArray.push]

theorem toStrA_sound (hm : MR G p m w) {src dst : TypeId} {x : AV} {x' : Value} {v : AV} (hx : VR p x x') (hdst : P.underlying dst = some .string) (h : toStrA P src x m = some v) :
    Gives P p (convert src dst x') w v := by
  unfold toStrA at h
  split at h
  · rename_i e hd
    split at h
    · rename_i he
      unfold Gives
      split at h
      · cases h
        simp only [VR] at hx
        obtain ⟨_, _, rfl⟩ := hx
        refine ⟨.string .empty, ?_, by simp only [VR]; rfl⟩
        simp only [convert, Sem.run_bind, run_under hd, run_under hdst, Result.andThen_ok, run_under he, Conv.bytesToString, Sem.run_pure]
      · rename_i a sz len cap ex
        obtain ⟨bs, hb, rfl⟩ := Option.map_eq_some_iff.1 h
        obtain ⟨cs, hcs, hbs⟩ := Option.bind_eq_some_iff.1 hb
        simp only [VR, SR] at hx
        obtain ⟨ci, off, cap', hci, rfl, hlc, hcc, _, _, hoff⟩ := hx
        by_cases hl : len = 0
        · subst hl
          obtain ⟨_, _, _, _, rfl⟩ := ldCells_spec hcs
          simp only [List.take_zero, bytesA, Option.some.injEq] at hbs; subst hbs
          refine ⟨.string .empty, ?_, by simp only [VR]; rfl⟩
          simp only [convert, Sem.run_bind, run_under hd, run_under hdst, Result.andThen_ok, run_under he, Conv.bytesToString]
          simp [loadCells, loadCellsFrom]
        · have e : off = a.o + ci.d := hoff (by omega)
          subst e
          obtain ⟨vs', h1, h2, _⟩ := ldCells_sound (P := P) hm hci hcs
          refine ⟨.string ⟨⟨bs⟩⟩, ?_, by simp only [VR]⟩
          simp only [convert, Sem.run_bind, run_under hd, run_under hdst, Result.andThen_ok, run_under he, Conv.bytesToString, h1 w rfl]
          have := bytesA_sound (P := P) (w := w) h2 hbs .empty
          simp only [List.forIn_toArray] at *
          erw [this]
          simp
      · simp at h
    · simp at h
  · simp at h

/-- AN OPERATION THAT READS. -/
theorem read_sound (hm : MR P.globals.size p m w) {o : Oper} {t : List AV} {a : Act} (ht : VRs p t a.tmps.toList) (hc : cls P o.op = .r) {v : AV} (h : readOp P o.op t m = some v) :
    ∃ cv, (execOp a.eval o).run P w = .ok (.value cv) w ∧ VR p v cv := by
  have E : ∀ {x : Operand} {v : AV}, ev P t x = some v → VR p v (a.eval x) := fun h => ev_VR ht hm.glob h
  have ho : ∃ op, o.op = op := ⟨_, rfl⟩
  obtain ⟨op, ho⟩ := ho
  rw [ho] at h hc
  unfold readOp at h
  split at h
  · obtain ⟨x, h1, h⟩ := Option.bind_eq_some_iff.1 h
    simp only [execOp, ho]
    exact (loadA_sound hm (E h1) h).value
  · rename_i src dst xo
    obtain ⟨x, h1, h⟩ := Option.bind_eq_some_iff.1 h
    have hdst : P.underlying dst = some .string := by
      simp only [cls] at hc
      split at hc
      · assumption
      · cases hc
      · cases hc
    simp only [execOp, ho]
    exact (toStrA_sound hm (E h1) hdst h).value
  · simp at h

/-! Writing. -/
theorem setCells_spec (b : Nat) : ∀ (vs : List Value) (o : Nat) (w : World) {arr : Array Value} {el : TypeId} {fr : Nat × Nat}, w.heap[b]? = some (.cells arr el fr) → o + vs.length ≤ arr.size →
    ∃ arr', (w.setCells b o vs).heap[b]? = some (.cells arr' el fr) ∧ arr'.size = arr.size ∧ (∀ i, arr'[i]? = if o ≤ i ∧ i < o + vs.length then vs[i - o]? else arr[i]?) ∧
      (∀ c, c ≠ b → (w.setCells b o vs).heap[c]? = w.heap[c]?) ∧ (w.setCells b o vs).heap.size = w.heap.size ∧ (w.setCells b o vs).os = w.os ∧ (w.setCells b o vs).output = w.output ∧ (w.setCells b o vs).tape = w.tape
  | [], o, w, arr, el, fr, h, _ => ⟨arr, h, rfl, fun i => by rw [if_neg (by simp only [List.length_nil]; omega)], fun _ _ => rfl, rfl, rfl, rfl, rfl⟩
  | v :: vs, o, w, arr, el, fr, h, hl => by
    simp only [List.length_cons] at hl
    have h1 : (w.setCell ⟨b, o, none⟩ v).heap[b]? = some (.cells (arr.setIfInBounds o v) el fr) := by
      simp only [World.setCell, Array.getElem?_modify, if_true, h]
      rfl
    obtain ⟨arr', e1, e2, e3, e4, e5, e6, e7, e8⟩ := setCells_spec b vs (o + 1) (w.setCell ⟨b, o, none⟩ v) h1 (by simp; omega)
    refine ⟨arr', e1, by rw [e2]; simp, fun i => ?_, fun c hc => ?_, ?_, e6.trans rfl, e7.trans rfl, e8.trans rfl⟩
    · rw [e3 i]
      simp only [List.length_cons]
      by_cases hi : i = o
      · subst hi
        rw [if_neg (by omega), if_pos (by omega)]
        simp [Array.getElem?_setIfInBounds_self]; try omega
      · by_cases hr : o + 1 ≤ i ∧ i < o + 1 + vs.length
        · rw [if_pos hr, if_pos (by omega)]
          obtain ⟨j, rfl⟩ : ∃ j, i = o + 1 + j := ⟨i - (o + 1), by omega⟩
          rw [show o + 1 + j - (o + 1) = j by omega, show o + 1 + j - o = j + 1 by omega, List.getElem?_cons_succ]
        · rw [if_neg hr, if_neg (by omega), Array.getElem?_setIfInBounds_ne (by omega)]
    · rw [World.setCells, e4 c hc]
      simp only [World.setCell, Array.getElem?_modify]
      rw [if_neg (fun e => hc e.symm)]
    · rw [World.setCells, e5]; simp [World.setCell]

/-- Cells stored: the world behind. -/
theorem storeCells_run {c off : Nat} {vs : List Value} {arr : Array Value} {el : TypeId} {fr : Nat × Nat} (h : w.heap[c]? = some (.cells arr el fr)) (hl : off + vs.length ≤ arr.size)
    (hf : ∀ i, i < arr.size → ¬ (fr.1 ≤ i ∧ i < fr.2)) (h1 : ∀ v ∈ vs, v.oneCell' = true) : (storeCells ⟨c, off, none⟩ vs).run P w = .ok () (w.setCells c off vs) := by
  have := run_storeCells_cells (P := P) c off vs 0 w (fun j hj => by
      rw [cell_of_arr h]; simp; omega) (fun j hj => by
      simp only [World.frozen?, h]
      have := hf (off + 0 + j) (by omega)
      simpa using this) h1
  simpa using this

/-- A block's content turned, in place. -/
theorem Sim.turn (h : MR G p m w) {b : Nat} {cs cs' : List AV} {ci : CI} (hb : m.get b = some (.cells cs false)) (hp : p b = some ci) {w' : World} {arr : Array Value} {el : TypeId} {fr : Nat × Nat}
    (hw : w'.heap[ci.c]? = some (.cells arr el fr)) (hn : arr.size = ci.n) (hf : ∀ i, i < arr.size → ¬ (fr.1 ≤ i ∧ i < fr.2))
    (hcs : ∀ (i : Nat) a, cs'[i]? = some a → ∃ v, arr[ci.d + i]? = some v ∧ VR p a v) (ho : ∀ c, c ≠ ci.c → w'.heap[c]? = w.heap[c]?) (hs : w'.heap.size = w.heap.size)
    (e1 : w'.os = w.os) (e2 : w'.output = w.output) (e3 : w'.tape = w.tape) : Sim G p m w p (m.put b (some (.cells cs' false))) w' := by
  have hbl := Mem.get_lt hb
  have hro : ∀ b2 cs2 ci2, m.get b2 = some (.cells cs2 true) → p b2 = some ci2 → b2 ≠ b ∧ ci2.c ≠ ci.c := by
    intro b2 cs2 ci2 h1 h2
    have hne : b2 ≠ b := by rintro rfl; rw [hb] at h1; cases h1
    refine ⟨hne, fun ec => ?_⟩
    rcases h.inj b2 ci2 b ci (by rw [h1]; rfl) h2 hp ec with e' | ⟨_, e'⟩
    · exact hne e'
    · rw [hb] at e'; simp at e'
  refine ⟨fun _ _ h => h, fun _ _ => rfl, by simp, ⟨?_, ?_, ?_, h.glob⟩, ?_, ?_, ?_, ?_, fun b2 cs2 ci2 h1 h2 => ⟨by rw [Mem.get_put, if_neg (fun x => (hro b2 cs2 ci2 h1 h2).1 x.1)]; exact h1, ho _ (hro b2 cs2 ci2 h1 h2).2⟩, by omega, e1, e2, e3⟩
  · intro b2 cs2 ro2 ci2 h1 h2
    rw [Mem.get_put] at h1
    by_cases e : b2 = b
    · subst e
      rw [if_pos ⟨rfl, hbl⟩] at h1
      cases h1
      rw [hp] at h2; cases h2
      exact ⟨arr, el, fr, hw, hn, fun _ => hf, hcs⟩
    · rw [if_neg (fun x => e x.1)] at h1
      have hne : ci2.c ≠ ci.c := by
        intro ec
        rcases h.inj b2 ci2 b ci (by rw [h1]; rfl) h2 hp ec with e' | ⟨_, e'⟩
        · exact e e'
        · rw [hb] at e'; simp at e'
      obtain ⟨a, x, y, h3⟩ := h.live b2 cs2 ro2 ci2 h1 h2
      exact ⟨a, x, y, by rw [ho _ hne]; exact h3.1, h3.2⟩
  · intro b1 c1 b2 c2 h1 h2 h3 h4
    have h1' : (m.get b1).isSome = true := by
      rw [Mem.get_put] at h1
      by_cases e : b1 = b
      · subst e; rw [hb]; rfl
      · rwa [if_neg (fun x => e x.1)] at h1
    rcases h.inj b1 c1 b2 c2 h1' h2 h3 h4 with e | ⟨e, e'⟩
    · exact .inl e
    · right
      refine ⟨by simpa using e, ?_⟩
      rw [Mem.get_put, if_neg]
      · exact e'
      · rintro ⟨rfl, _⟩; rw [hb] at e'; simp at e'
  · intro b1 c1 h1; rw [hs]; exact h.bnd b1 c1 h1
  · intro b1 h1 h2
    rw [Mem.get_put, if_neg]
    rintro ⟨rfl, _⟩; rw [hp] at h2; simp at h2
  · intro b1 h1 h2
    rw [Mem.get_put, if_neg]
    · exact h2
    · rintro ⟨rfl, _⟩; rw [hb] at h2; simp at h2
  · intro c hc hn'
    exact ho c fun e => hn' b ci (by rw [hb]; rfl) hp e.symm
  · intro b1 ci1 h1 h2
    simp at h2; omega

/-- A block forgotten. -/
theorem Sim.kill (h : MR G p m w) {b : Nat} {ci : CI} {cs : List AV} (hb : m.get b = some (.cells cs false)) (hp : p b = some ci) : Sim G p m w p (m.put b none) w := by
  refine ⟨fun _ _ h => h, fun _ _ => rfl, by simp, ⟨?_, ?_, h.bnd, h.glob⟩, ?_, ?_, fun _ _ _ => rfl, ?_, fun b2 cs2 ci2 h1 h2 => ⟨by rw [Mem.get_put, if_neg (by rintro ⟨rfl, _⟩; rw [hb] at h1; cases h1)]; exact h1, rfl⟩, Nat.le_refl _, rfl, rfl, rfl⟩
  · intro b2 cs2 ro2 ci2 h1 h2
    rw [Mem.get_put] at h1
    split at h1
    · simp at h1
    · exact h.live b2 cs2 ro2 ci2 h1 h2
  · intro b1 c1 b2 c2 h1 h2 h3 h4
    rw [Mem.get_put] at h1
    split at h1
    · simp at h1
    · rcases h.inj b1 c1 b2 c2 h1 h2 h3 h4 with e | ⟨e, e'⟩
      · exact .inl e
      · right
        refine ⟨by simpa using e, ?_⟩
        rw [Mem.get_put]; split
        · rfl
        · exact e'
  · intro b1 h1 h2
    rw [Mem.get_put, if_neg]
    rintro ⟨rfl, _⟩; rw [hp] at h2; simp at h2
  · intro b1 h1 h2
    rw [Mem.get_put]; split
    · rfl
    · exact h2
  · intro b1 ci1 h1 h2
    simp at h2; omega
end
end Go.Abs
