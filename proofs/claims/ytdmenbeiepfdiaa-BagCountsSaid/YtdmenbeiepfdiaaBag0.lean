/- A bag in the abstract memory. -/
import Derived.Test.YtdmenbeiepfdiaaEqs
import Derived.Test.YtdmenbeiepfdiaaAbs22
namespace Go.Proofs.Ytdmenbeiepfdiaa
open Go Go.Abs

/-- A bag at a block: its row's block, its row, how many may be, how many were lost. -/
def BagAt (m : Mem) (b : Nat) (rb : Option Nat) (l : List AV) (most lost : Int) : Prop :=
  ∃ s, m.get b = some (.cells [s, .int .i64 most, .int .i64 lost] false) ∧ Row m s l rb ∧ rb ≠ some b ∧ l.all AV.one = true
/-- What has become of it. -/
def BagTo (m : Mem) (b : Nat) (rb : Option Nat) (v : AV) (l : List AV) (most lost : Int) (r : R) : Prop :=
  ∃ m' rb', r = some (v, m') ∧ BagAt m' b rb' l most lost ∧ Fr m m' (b :: rb.toList) ∧ (rb' = rb ∨ ∃ n, rb' = some n ∧ m.next ≤ n)

theorem BagAt.frame {m m' : Mem} {b : Nat} {rb : Option Nat} {l : List AV} {most lost : Int} {S : List Nat} (h : BagAt m b rb l most lost) (hf : Fr m m' S) (hb : b ∉ S) (hr : ∀ c, rb = some c → c ∉ S) : BagAt m' b rb l most lost := by
  obtain ⟨s, h1, h2, h3, h4⟩ := h
  exact ⟨s, hf.get h1 hb, h2.frame hf hr, h3, h4⟩
theorem BagAt.lt {m : Mem} {b : Nat} {rb : Option Nat} {l : List AV} {most lost : Int} (h : BagAt m b rb l most lost) : b < m.next := by
  obtain ⟨s, h1, h2, h3, h4⟩ := h
  exact Mem.get_lt h1
theorem BagAt.rlt {m : Mem} {b c : Nat} {l : List AV} {most lost : Int} (h : BagAt m b (some c) l most lost) : c < m.next := by
  obtain ⟨s, h1, h2, h3, h4⟩ := h
  exact h2.lt

theorem ld3 (p : AV) (m : Mem) : loadA Try.prog 3 p m = ld1 m p := by kernel_rfl
theorem ld1_of {m : Mem} {b o : Nat} {cs : List AV} {ro : Bool} (h : m.get b = some (.cells cs ro)) : ld1 m (.ptr (some ⟨b, o⟩)) = cs[o]? := by simp only [ld1, h]
theorem stV_of {m : Mem} {b o : Nat} {cs vs : List AV} {v : AV} (h : m.get b = some (.cells cs false)) (hv : v.cells = some vs) (hl : o + vs.length ≤ cs.length) :
    stV m (.ptr (some ⟨b, o⟩)) v vs.length = some (m.put b (some (.cells (cs.take o ++ vs ++ cs.drop (o + vs.length)) false))) := by
  simp only [stV, hv, if_true, stCells, h, if_pos hl]
theorem stV1 {m : Mem} {b o : Nat} {cs : List AV} {v y : AV} (h : m.get b = some (.cells cs false)) (hv : v.cells = some [y]) (hl : o + 1 ≤ cs.length) :
    stV m (.ptr (some ⟨b, o⟩)) v 1 = some (m.put b (some (.cells (cs.take o ++ [y] ++ cs.drop (o + 1)) false))) := stV_of h hv hl
theorem binA_geq (t : TypeId) (k : IntKind) (x y : Int) : binA Try.prog .geq t (.int k x) (.int k y) = some (.bool (decide (y ≤ x))) := by simp [binA, intA]
theorem binA_gtr (t : TypeId) (k : IntKind) (x y : Int) : binA Try.prog .gtr t (.int k x) (.int k y) = some (.bool (decide (y < x))) := by simp [binA, intA]
theorem binA_lss (t : TypeId) (k : IntKind) (x y : Int) : binA Try.prog .lss t (.int k x) (.int k y) = some (.bool (decide (x < y))) := by simp [binA, intA]
theorem binA_eql (t : TypeId) (k : IntKind) (x y : Int) : binA Try.prog .eql t (.int k x) (.int k y) = some (.bool (decide (x = y))) := by simp [binA, intA]; rfl
theorem binA_neq (t : TypeId) (k : IntKind) (x y : Int) : binA Try.prog .neq t (.int k x) (.int k y) = some (.bool (!decide (x = y))) := by simp [binA, intA, bne]; rfl
theorem binA_add (t : TypeId) (k : IntKind) (x y : Int) : binA Try.prog .add t (.int k x) (.int k y) = some (.int k (k.wrap (x + y))) := by simp [binA, intA]
theorem binA_sub (t : TypeId) (k : IntKind) (x y : Int) : binA Try.prog .sub t (.int k x) (.int k y) = some (.int k (k.wrap (x - y))) := by simp [binA, intA]
theorem binA_rem (t : TypeId) (k : IntKind) (x y : Int) (h : y ≠ 0) : binA Try.prog .rem t (.int k x) (.int k y) = some (.int k (x.tmod y)) := by simp [binA, intA, h]
theorem wrap64 {x : Int} (h1 : -9223372036854775808 ≤ x) (h2 : x < 9223372036854775808) : IntKind.wrap .i64 x = x := by
  have e : IntKind.wrap .i64 x = if x % 18446744073709551616 ≥ 9223372036854775808 then x % 18446744073709551616 - 18446744073709551616 else x % 18446744073709551616 := by
    simp [IntKind.wrap, IntKind.bits, IntKind.signed]
  rw [e]
  split <;> omega
theorem cells_one {x : AV} (h : x.one = true) : x.cells = some [x] := by cases x <;> first | rfl | (simp [AV.one] at h)
theorem bs_one {x z : AV} (h : x.one = true) : bsA 1 1 [z] [(0, x)] = some ([x], fun b => .sl (some ⟨b, 0⟩) 1 1 1 true) := by
  simp [bsA, fillA, cells_one h]

theorem row_one {m : Mem} {s : AV} {l : List AV} {rb : Option Nat} (h : Row m s l rb) : s.one = true := by
  rcases h with ⟨⟨sz, ex, rfl⟩, _⟩ | ⟨b, sp, ex, _, rfl, _⟩ <;> rfl
theorem stV_row {m m0 : Mem} {b : Nat} {s s0 x y : AV} {l : List AV} {rb : Option Nat} (h : m.get b = some (.cells [s0, x, y] false)) (hr : Row m0 s l rb) :
    stV m (.ptr (some ⟨b, 0⟩)) s 1 = some (m.put b (some (.cells [s, x, y] false))) := by
  have := stV_of (v := s) (o := 0) h (cells_one (row_one hr)) (by simp)
  simpa using this

section
variable {m : Mem} {b : Nat} {rb : Option Nat} {l : List AV} {most lost : Int}
/-- One is put behind the row. -/
theorem add_row {s x : AV} {w : Nat} (hb : m.get b = some (.cells [s, .int .i64 most, .int .i64 lost] false)) (hr : Row m s l rb) (hne : rb ≠ some b) (hone : l.all AV.one = true) (hx : x.one = true)
    (_ : l.length < 65536) (hw : (l.length + 1) * w ≤ maxBytes) :
    BagTo m b rb (.bool true) (l ++ [x]) most lost ((appendA 1 w s (.sl (some ⟨m.next, 0⟩) 1 1 1 true) (m.alloc [x])).bind fun r4 =>
      Option.bind (stV r4.2 (.ptr (some ⟨b, 0⟩)) r4.1 1) fun m7 => some (.bool true, m7)) := by
  have hf0 := Fr.alloc m [x]
  have hS : Sl (m.alloc [x]) (.sl (some ⟨m.next, 0⟩) 1 1 1 true) [x] := .inr ⟨⟨m.next, 0⟩, 1, 1, true, [x], false, rfl, .inl rfl, Nat.le_refl _, by simp [Mem.get_alloc], by simp, by simp⟩
  have hr0 : Row (m.alloc [x]) s l rb := hr.frame hf0 (by simp)
  have hb0 := hf0.get hb (by simp)
  obtain ⟨s', m', rb', h1, h2, h3, h4⟩ := append_row hr0 hS (by simp [hx]) (by simpa using hw)
  rw [h1]
  simp only [Option.bind_some]
  have hbm : b < m.next := Mem.get_lt hb
  have hb' := h3.get hb0 (by cases rb with
    | none => simp
    | some c => simp; intro e; exact hne (by rw [e]))
  rw [stV_row hb' h2]
  have hne' : rb' ≠ some b := by
    rcases h4 with e | e
    · rw [e]; exact hne
    · rw [e]; simp; omega
  refine ⟨_, rb', rfl, ⟨_, by rw [Mem.get_put, if_pos ⟨rfl, Mem.get_lt hb'⟩], h2.frame (Fr.put _ _ _) ?_, hne', by simp [hone, hx]⟩, ?_, ?_⟩
  · intro c hc hm
    simp only [List.mem_singleton] at hm
    exact hne' (by rw [hc, hm])
  · exact (hf0.trans h3 (T := b :: rb.toList) (by simp) (by simp +contextual)).trans (Fr.put _ _ _) (by simp +contextual) (by simp)
  · rcases h4 with e | e
    · exact .inl e
    · exact .inr ⟨_, e, by simp⟩

theorem all_row {s : AV} {w : Nat} (hr : Row m s l rb) (hone : l.all AV.one = true) (hw : l.length * w ≤ maxBytes) :
    ∃ s' m' n, ((appendA 1 w (.sl (some ⟨m.next, 0⟩) 1 0 0 true) s (m.alloc [])).bind fun r4 => some (r4.1, r4.2)) = some (s', m') ∧ Row m' s' l (some n) ∧ m.next ≤ n ∧ Fr m m' [] := by
  have hf0 := Fr.alloc m []
  have hr0 : Row (m.alloc []) s l rb := hr.frame hf0 (by simp)
  have hn : Row (m.alloc []) (.sl (some ⟨m.next, 0⟩) 1 0 0 true) [] (some m.next) := .inr ⟨m.next, [], true, rfl, rfl, by simp [Mem.get_alloc]⟩
  obtain ⟨s', m', rb', h1, h2, h3, h4⟩ := append_row hn hr0.sl hone (by simpa using hw)
  rw [h1]
  refine ⟨s', m', rb'.getD 0, rfl, ?_, ?_, ?_⟩
  · rcases h4 with e | e <;> (subst e; simpa using h2)
  · rcases h4 with e | e <;> (subst e; simp)
  · exact hf0.trans h3 (by simp) (by simp)
end
end Go.Proofs.Ytdmenbeiepfdiaa
