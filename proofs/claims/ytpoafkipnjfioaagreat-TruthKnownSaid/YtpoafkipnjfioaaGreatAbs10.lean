/- New blocks. -/
import Derived.Test.YtpoafkipnjfioaaGreatAbs9
namespace Go.Abs
open Go

section
variable {P : Program} {p : Phi} {m : Mem} {w : World}

/-- A new block has been laid. -/
structure Laid (P : Program) (p : Phi) (v : Blk) (mk : Nat → AV) (w w' : World) (cv : Value) (o : Obj) (n : Nat) : Prop where
  heap : w'.heap = w.heap.push o
  os : w'.os = w.os
  output : w'.output = w.output
  tape : w'.tape = w.tape
  blk : BR P p ⟨w.heap.size, 0, n⟩ v o
  value : ∀ (p2 : Phi) b, p2 b = some ⟨w.heap.size, 0, n⟩ → VR p2 (mk b) cv
theorem laid_cells {cs : List AV} {ro : Bool} {mk : Nat → AV} {w w' : World} {cv : Value} {arr : Array Value} {el : TypeId} {fr : Nat × Nat} (h1 : w'.heap = w.heap.push (.cells arr el fr)) (h2 : w'.os = w.os) (h3 : w'.output = w.output) (h4 : w'.tape = w.tape)
    (h5 : ro = false → ∀ i, ¬ (fr.1 ≤ i ∧ i < fr.2)) (h6 : ∀ (i : Nat) a, cs[i]? = some a → ∃ v, arr[i]? = some v ∧ VR p a v) (h7 : ∀ (p2 : Phi) b, p2 b = some ⟨w.heap.size, 0, arr.size⟩ → VR p2 (mk b) cv) :
    Laid P p (.cells cs ro) mk w w' cv (.cells arr el fr) arr.size :=
  ⟨h1, h2, h3, h4, ⟨arr, el, fr, rfl, rfl, h5, fun i a hi => let ⟨v, x, y⟩ := h6 i a hi; ⟨v, by simpa using x, y⟩⟩, h7⟩
theorem Laid.sim {v : Blk} {mk : Nat → AV} {w' : World} {cv : Value} {o : Obj} {n : Nat} (h : Laid P p v mk w w' cv o n) (hm : MR P p m w) (hf : p m.next = none) :
    Sim P p m w (fun b => if b = m.next then some ⟨w.heap.size, 0, n⟩ else p b) (m.lay v) w' :=
  Sim.lay hm hf (Nat.le_refl _) (by rw [h.heap]; simp) (fun i hi => by rw [h.heap, Array.getElem?_push_lt hi, ← Array.getElem?_eq_getElem]) (by rw [h.heap]; simp) h.os h.output h.tape fun _ hq => h.blk.mono hq

theorem cells_get {cs : List AV} {vs : List Value} (h : VRs p cs vs) : ∀ (i : Nat) a, cs[i]? = some a → ∃ v, (⟨vs⟩ : Array Value)[i]? = some v ∧ VR p a v := by
  intro i a hi
  obtain ⟨v, h1, h2⟩ := h.get hi
  exact ⟨v, by simpa using h1, h2⟩

theorem wrap_i64 {n : Int} (h0 : -9223372036854775808 ≤ n) (h1 : n < 9223372036854775808) : IntKind.i64.wrap n = n := by
  have e1 : ((2 : Int) ^ IntKind.i64.bits) = 18446744073709551616 := by decide
  have e2 : ((2 : Int) ^ (IntKind.i64.bits - 1)) = 9223372036854775808 := by decide
  have e3 : IntKind.i64.signed = true := rfl
  simp only [IntKind.wrap, e1, e2, e3, Bool.true_and, decide_eq_true_eq]
  split <;> omega

theorem alloc_spec {o : Oper} {t : List AV} {a : Act} (ht : VRs p t a.tmps.toList) (hg : ∀ g, g < P.globals.size → ∃ n, p g = some ⟨g, 0, n⟩) (hc : cls P o.op = .a) {cs : Blk} {mk : Nat → AV} (h : allocOp P o.op t = some (cs, mk)) (w : World) :
    ∃ cv w' ob n, (execOp a.eval o).run P w = .ok (.value cv) w' ∧ Laid P p cs mk w w' cv ob n := by
  have E : ∀ {x : Operand} {v : AV}, ev P t x = some v → VR p v (a.eval x) := fun h => ev_VR ht hg h
  have ho : ∃ op, o.op = op := ⟨_, rfl⟩
  obtain ⟨op, ho⟩ := ho
  rw [ho] at h hc
  unfold allocOp at h
  split at h
  · -- alloc
    rename_i e
    obtain ⟨zs, hz, e1⟩ := Option.map_eq_some_iff.1 h
    cases e1
    obtain ⟨z, zs', h1, h2, h3, h4, _⟩ := zeroA_sound (p := p) (w := w) hz
    refine ⟨.pointer (some ⟨w.heap.size, 0, none⟩), w.alloc (.cells ⟨zs'⟩ e), .cells ⟨zs'⟩ e (0, 0), _, ?_, laid_cells rfl rfl rfl rfl (by simp) (cells_get h3) fun p2 b hb => by simp only [VR]; exact ⟨_, hb, by simp⟩⟩
    simp only [execOp, ho, Instr.alloc, Sem.run_bind, h1, Result.andThen_ok, newVar, newRow, run_newObj, h2, Sem.run_pure]
    rfl
  · -- box
    rename_i e xo
    obtain ⟨zs, hz, e1⟩ := Option.map_eq_some_iff.1 h
    cases e1
    obtain ⟨x, hx, hc1⟩ := Option.bind_eq_some_iff.1 hz
    obtain ⟨zs', h2, h3, h4⟩ := (E hx).cells hc1
    refine ⟨.pointer (some ⟨w.heap.size, 0, none⟩), w.alloc (.cells ⟨zs'⟩ e), .cells ⟨zs'⟩ e (0, 0), _, ?_, laid_cells rfl rfl rfl rfl (by simp) (cells_get h3) fun p2 b hb => by simp only [VR]; exact ⟨_, hb, by simp⟩⟩
    simp only [execOp, ho, Instr.box, Sem.run_bind, Result.andThen_ok, newVar, newRow, run_newObj, h2, Sem.run_pure]
    rfl
  · -- a map
    rename_i s
    split at h
    · rename_i kt et hd
      cases h
      refine ⟨.map (some w.heap.size), w.alloc (.map #[] 0), .map #[] 0, 0, ?_, rfl, rfl, rfl, rfl, ⟨#[], 0, rfl, ⟨[], .refl _, by simp [ER]⟩, by simp, by simp⟩, fun p2 b hb => by simp only [VR]; exact ⟨_, hb, rfl⟩⟩
      simp only [execOp, ho, Option.map_none, Instr.makeMap, Sem.run_bind, Sem.run_pure, Result.andThen_ok, run_newObj]
      rfl
    · simp at h
  · -- a slice's literal
    rename_i s len parts
    split at h
    · rename_i e he
      split at h
      · rename_i n zs hn hz
        split at h
        · rename_i hle
          obtain ⟨ps, hps, h⟩ := Option.bind_eq_some_iff.1 h
          obtain ⟨r, hr, e1⟩ := Option.map_eq_some_iff.1 h
          cases e1
          obtain ⟨z, zs', h1, h2, h3, h4, _⟩ := zeroA_sound (p := p) (w := w) hz
          have hzl := h3.length
          obtain ⟨r', f1, f2⟩ := fillA_sound (evParts_VR ht hg hps) (h3.flat len) hr
          refine ⟨.slice (some ⟨w.heap.size, 0, none⟩) len len, w.alloc (.cells ⟨r'⟩ e), .cells ⟨r'⟩ e (0, 0), _, ?_, laid_cells rfl rfl rfl rfl (by simp) (cells_get f2) fun p2 b hb => ?_⟩
          · have e2 : (parts.map fun x => (x.1, a.eval x.2)).toList = parts.toList.map fun (i, x) => (i, a.eval x) := by simp
            simp only [execOp, ho, Instr.buildSlice, Sem.run_bind, run_under he, run_size hn, Result.andThen_ok]
            rw [Sem.run_ite, if_neg (by omega)]
            simp only [Sem.run_pure]
            by_cases h0 : len * n = 0
            · have hnil : (List.replicate len zs').flatten = [] := List.length_eq_zero_iff.1 (by simp [hzl, hle.2, h0])
              have hm0 : ∀ f : Nat → Value, (Array.range (len * n)).map f = ⟨(List.replicate len zs').flatten⟩ := by intro f; rw [hnil, h0]; simp
              rw [if_pos h0]
              simp only [Sem.run_bind, Sem.run_pure, Result.andThen_ok, hm0, e2, f1, newRow, run_newObj]
              rfl
            · have hz0 := zeros_eq zs' len
              rw [hzl, hle.2] at hz0
              have hz1 : (Array.range (len * n)).map (fun x => (⟨zs'⟩ : Array Value)[x % (⟨zs'⟩ : Array Value).size]!) = ⟨(List.replicate len zs').flatten⟩ := by
                rw [← hz0]; simp [hzl, hle.2]
              rw [if_neg h0]
              simp only [Sem.run_bind, h1, h2, Sem.run_pure, Result.andThen_ok, hz1, e2, f1, newRow, run_newObj]
              rfl
          · simp only [VR, SR]
            exact ⟨_, 0, len, hb, rfl, Nat.le_refl _, Nat.le_refl _, fun _ => rfl, by simp, fun _ => by simp⟩
        · simp at h
      · simp at h
    · simp at h
  · -- make
    rename_i s lo co
    obtain ⟨l, hl, h⟩ := Option.bind_eq_some_iff.1 h
    obtain ⟨c, hcc, h⟩ := Option.bind_eq_some_iff.1 h
    split at h
    · rename_i e l c he _
      split at h
      · rename_i n zs wb hn hz hb
        split at h
        · rename_i hle
          cases h
          obtain ⟨z, zs', h1, h2, h3, h4, _⟩ := zeroA_sound (p := p) (w := w) hz
          have hzl := h3.length
          have hl' := E hl
          have hc' := E hcc
          simp only [VR] at hl' hc'
          obtain ⟨g1, g2, g3, g4, g5⟩ := hle
          unfold maxBytes at g4
          have hwl : IntKind.i64.wrap l = l := wrap_i64 (by omega) (by omega)
          have hwc : IntKind.i64.wrap c = c := wrap_i64 (by omega) (by omega)
          obtain ⟨i, hi⟩ : ∃ i, P.info? e = some i ∧ i.bytes = wb := by
            unfold bytesT at hb
            obtain ⟨i, h5, h6⟩ := Option.map_eq_some_iff.1 hb
            exact ⟨i, h5, h6⟩
          obtain ⟨hi, hib⟩ := hi
          refine ⟨.slice (some ⟨w.heap.size, 0, none⟩) l.toNat c.toNat, w.alloc (.cells ⟨(List.replicate c.toNat zs').flatten⟩ e), .cells ⟨(List.replicate c.toNat zs').flatten⟩ e (0, 0), _, ?_, laid_cells rfl rfl rfl rfl (by simp) (cells_get (h3.flat _)) fun p2 b hb => ?_⟩
          · have hbc : ((wb : Int) * c) = ((c.toNat * wb : Nat) : Int) := by
              rw [Int.natCast_mul, Int.toNat_of_nonneg (by omega), Int.mul_comm]
            have hlarge : ¬ (c < 0 ∨ (281474976710656 : Int) < (wb : Int) * c) := by rw [hbc]; omega
            simp only [execOp, ho, hl', hc', Instr.makeSlice, Sem.run_bind, run_under he, Result.andThen_ok, asInt, asIntOf, Sem.run_pure, run_info hi, hwl, hwc, hib]
            rw [Sem.run_ite, if_neg (by simp; omega)]
            simp only [Result.andThen_ok, run_askRoom, Sem.run_bind, run_size hn]
            by_cases h0 : c.toNat * n = 0
            · have hnil : (List.replicate c.toNat zs').flatten = [] := List.length_eq_zero_iff.1 (by simp only [List.length_flatten, List.map_replicate, List.sum_replicate_nat, hzl, g5, h0])
              have hm0 : ∀ f : Nat → Value, (Array.range (c.toNat * n)).map f = ⟨(List.replicate c.toNat zs').flatten⟩ := by intro f; rw [hnil, h0]; simp
              rw [if_pos h0]
              simp only [Sem.run_bind, Sem.run_pure, Result.andThen_ok, hm0, newRow, run_newObj]
              rfl
            · have hz0 := zeros_eq zs' c.toNat
              rw [hzl, g5] at hz0
              have hz1 : (Array.range (c.toNat * n)).map (fun x => (⟨zs'⟩ : Array Value)[x % (⟨zs'⟩ : Array Value).size]!) = ⟨(List.replicate c.toNat zs').flatten⟩ := by
                rw [← hz0]; simp [hzl, g5]
              rw [if_neg h0]
              simp only [Sem.run_bind, h1, h2, Sem.run_pure, Result.andThen_ok, hz1, newRow, run_newObj]
              rfl
          · simp only [VR, SR]
            exact ⟨_, 0, c.toNat, hb, rfl, by omega, Nat.le_refl _, fun _ => rfl, by simp, fun _ => by simp⟩
        · simp at h
      · simp at h
    · simp at h
  · -- a string's bytes
    rename_i src dst xo
    obtain ⟨x, hx, h⟩ := Option.bind_eq_some_iff.1 h
    split at h
    · rename_i e s hsome he
      split at h
      · rename_i heu hsz
        cases h
        have hx' := E hx
        simp only [VR] at hx'
        obtain ⟨d, hd⟩ := Option.isSome_iff_exists.1 hsome
        let cap := grownCap w s.length 0 e
        have hge : s.length ≤ cap := grownCap_ge w s.length 0 e
        let arr : Array Value := (⟨s⟩ : Array UInt8).map (fun b => Value.int .u8 b.toNat) ++ Array.replicate (cap - s.length) (.int .u8 0)
        have hsz : arr.size = cap := by simp [arr]; omega
        refine ⟨.slice (some ⟨w.heap.size, 0, none⟩) s.length cap, { w.drew with heap := w.heap.push (.cells arr e (cap, cap + 1)) }, .cells arr e (cap, cap + 1), _, ?_, laid_cells rfl rfl rfl rfl (by simp) (fun i x hi => ?_) fun p2 b hb => ?_⟩
        · simp only [execOp, ho, hx', convert, Sem.run_bind, run_under hd, run_under he, Result.andThen_ok]
          have hconv : (Conv.stringToBytes e ⟨⟨s⟩⟩).run P w = .ok (.slice (some ⟨w.heap.size, 0, none⟩) s.length cap) { w.drew with heap := w.heap.push (.cells arr e (cap, cap + 1)) } := by
            simp only [Conv.stringToBytes, Sem.run_bind, run_choose, str_size, Question.forced, Bool.false_eq_true, if_false, Result.andThen_ok, newRow, run_newObj, Sem.run_pure, markStringish, run_shape, World.shape?]
            have hcut : (Question.appendCap s.length 0 e).cut (w.tape w.drawn (.appendCap s.length 0 e)) = cap := rfl
            simp only [Array.getElem?_push_size, hcut]
            have harr : (((⟨s⟩ : Array UInt8).map fun b => Value.int .u8 b.toNat) ++ Array.replicate (cap - s.length) (.int .u8 0)) = arr := rfl
            simp only [harr, run_freeze, Result.andThen_ok, World.freeze, hsz]
            simp only [Nat.one_ne_zero, if_false]
            congr 1
            simp only [World.drew, World.mk.injEq, and_true]
            apply Array.ext
            · simp
            · intro i hi1 hi2
              simp only [Array.size_push] at hi2
              simp only [Array.getElem_modify, Array.getElem_push]
              by_cases hi : i < w.heap.size
              · rw [if_neg (by omega)]; simp [hi]
              · rw [if_pos (by omega)]; simp [hi]
          cases d <;> simp only [run_under heu, Result.andThen_ok, hconv, Sem.run_pure]
        · simp only [List.getElem?_map, Option.map_eq_some_iff] at hi
          obtain ⟨c, hc, rfl⟩ := hi
          refine ⟨.int .u8 c.toNat, ?_, by simp [VR]⟩
          have := (List.getElem?_eq_some_iff.1 hc).1
          simp only [arr]
          rw [Array.getElem?_append_left (by simpa using this)]
          simp [hc]
        · simp only [VR, SR]
          exact ⟨_, 0, cap, hb, rfl, Nat.le_refl _, hge, by simp, fun _ => by simp [hsz], fun _ => by simp⟩
      · simp at h
    · simp at h
  · simp at h
end
end Go.Abs
