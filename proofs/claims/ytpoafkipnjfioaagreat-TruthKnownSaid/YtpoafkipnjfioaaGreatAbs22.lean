/- Slices of one-cell elements, in the abstract memory: read, appended to. -/
import Derived.Test.YtpoafkipnjfioaaGreatAbs21
namespace Go.Abs
open Go

/-- What was there is there, but for some blocks. -/
def Fr (m m' : Mem) (S : List Nat) : Prop := m.next ≤ m'.next ∧ ∀ c, c < m.next → c ∉ S → m'.get c = m.get c
theorem Fr.refl (m : Mem) : Fr m m [] := ⟨Nat.le_refl _, fun _ _ _ => rfl⟩
theorem Fr.mono {m m' : Mem} {S T : List Nat} (h : Fr m m' S) (hs : ∀ c, c ∈ S → c < m.next → c ∈ T) : Fr m m' T :=
  ⟨h.1, fun c hc hn => h.2 c hc fun hm => hn (hs c hm hc)⟩
theorem Fr.trans {m m' m'' : Mem} {S S' T : List Nat} (h : Fr m m' S) (h' : Fr m' m'' S') (hs : ∀ c, c ∈ S → c < m.next → c ∈ T) (hs' : ∀ c, c ∈ S' → c < m.next → c ∈ T) : Fr m m'' T :=
  ⟨Nat.le_trans h.1 h'.1, fun c hc hn => (h'.2 c (Nat.lt_of_lt_of_le hc h.1) fun hm => hn (hs' c hm hc)).trans (h.2 c hc fun hm => hn (hs c hm hc))⟩
theorem Fr.get {m m' : Mem} {S : List Nat} (h : Fr m m' S) {c : Nat} {v : Blk} (hc : m.get c = some v) (hn : c ∉ S) : m'.get c = some v := by
  rw [h.2 c (Mem.get_lt hc) hn]; exact hc
theorem Fr.alloc (m : Mem) (cs : List AV) : Fr m (m.alloc cs) [] := ⟨Nat.le_succ _, fun c hc _ => by rw [Mem.get_lay, if_neg (by omega)]⟩
theorem Fr.put (m : Mem) (b : Nat) (v : Option Blk) : Fr m (m.put b v) [b] := ⟨Nat.le_refl _, fun c _ hn => by rw [Mem.get_put, if_neg]; intro h; exact hn (by simp [h.1])⟩

/-- A slice that is read: its elements. -/
def Sl (m : Mem) (s : AV) (l : List AV) : Prop :=
  (∃ sz ex, s = .sl none sz 0 0 ex ∧ l = []) ∨
  ∃ a sz cap ex cs ro, s = .sl (some a) sz l.length cap ex ∧ (1 = sz ∨ ex = true) ∧ l.length ≤ cap ∧ m.get a.b = some (.cells cs ro) ∧ a.o + l.length ≤ cs.length ∧ (cs.drop a.o).take l.length = l

/-- A slice that has its block for itself: in the block 'rb', or nowhere. -/
def Row (m : Mem) (s : AV) (l : List AV) (rb : Option Nat) : Prop :=
  ((∃ sz ex, s = .sl none sz 0 0 ex) ∧ l = [] ∧ rb = none) ∨
  ∃ b sp ex, rb = some b ∧ s = .sl (some ⟨b, 0⟩) 1 l.length (l.length + sp.length) ex ∧ m.get b = some (.cells (l ++ sp) false)

theorem Row.sl {m : Mem} {s : AV} {l : List AV} {rb : Option Nat} (h : Row m s l rb) : Sl m s l := by
  rcases h with ⟨⟨sz, ex, rfl⟩, rfl, _⟩ | ⟨b, sp, ex, _, rfl, h⟩
  · exact .inl ⟨_, _, rfl, rfl⟩
  · exact .inr ⟨_, _, _, _, _, _, rfl, .inl rfl, by omega, h, by simp, by simp⟩

theorem Row.frame {m m' : Mem} {s : AV} {l : List AV} {rb : Option Nat} {S : List Nat} (h : Row m s l rb) (hf : Fr m m' S) (hd : ∀ b, rb = some b → b ∉ S) : Row m' s l rb := by
  rcases h with h | ⟨b, sp, ex, h1, h2, h3⟩
  · exact .inl h
  · exact .inr ⟨b, sp, ex, h1, h2, hf.get h3 (hd b h1)⟩
theorem Row.lt {m : Mem} {s : AV} {l : List AV} {b : Nat} (h : Row m s l (some b)) : b < m.next := by
  rcases h with ⟨_, _, h⟩ | ⟨b', sp, ex, h1, h2, h3⟩
  · cases h
  · cases h1; exact Mem.get_lt h3

theorem Sl.len {m : Mem} {s : AV} {l : List AV} (h : Sl m s l) : ∃ a sz cap ex, s = .sl a sz l.length cap ex := by
  rcases h with ⟨sz, ex, rfl, rfl⟩ | ⟨a, sz, cap, ex, cs, ro, rfl, _⟩
  · exact ⟨_, _, _, _, rfl⟩
  · exact ⟨_, _, _, _, rfl⟩

theorem Sl.src {m : Mem} {x : AV} {l : List AV} (h : Sl m x l) : srcA 1 x m = some (l.length, l) := by
  rcases h with ⟨sz, ex, rfl, rfl⟩ | ⟨a, sz, cap, ex, cs, ro, rfl, hs, h0, h1, h2, h3⟩
  · rfl
  · simp [srcA, ldCells, h1, h2, h3, show sz = 1 ∨ ex = true from hs.imp Eq.symm id]

theorem Sl.frame {m m' : Mem} {s : AV} {l : List AV} {S : List Nat} (h : Sl m s l) (hf : Fr m m' S) (hd : ∀ a sz n c ex, s = .sl (some a) sz n c ex → a.b ∉ S) : Sl m' s l := by
  rcases h with h | ⟨a, sz, cap, ex, cs, ro, h0, hs, h1, h2, h3, h4⟩
  · exact .inl h
  · exact .inr ⟨a, sz, cap, ex, cs, ro, h0, hs, h1, hf.get h2 (hd _ _ _ _ _ h0), h3, h4⟩

theorem drop_take_get {cs l : List AV} {o i : Nat} (h : (cs.drop o).take l.length = l) (hi : i < l.length) : cs[o + i]? = l[i]? := by
  have h2 : ((cs.drop o).take l.length)[i]? = l[i]? := by rw [h]
  rw [List.getElem?_take, if_pos hi, List.getElem?_drop] at h2
  exact h2

/-- An element: its place, and what is there. -/
theorem Sl.elem {m : Mem} {s : AV} {l : List AV} (h : Sl m s l) {i : Nat} (hi : i < l.length) :
    ∃ a sz cap ex, s = .sl (some a) sz l.length cap ex ∧ (1 = sz ∨ ex = true) ∧ ixA 1 l.length a (i : Int) = some (.ptr (some ⟨a.b, a.o + i⟩)) ∧ ld1 m (.ptr (some ⟨a.b, a.o + i⟩)) = l[i]? := by
  rcases h with ⟨sz, ex, rfl, rfl⟩ | ⟨a, sz, cap, ex, cs, ro, h0, hs, h1, h2, h3, h4⟩
  · simp at hi
  · exact ⟨a, sz, cap, ex, h0, hs, by simp [ixA, hi], by simp only [ld1, h2]; exact drop_take_get h4 hi⟩

theorem append_row {m : Mem} {s x : AV} {l new : List AV} {rb : Option Nat} {w : Nat} (hr : Row m s l rb) (hx : Sl m x new) (hone : new.all AV.one = true)
    (hw : (l.length + new.length) * w ≤ maxBytes) :
    ∃ s' m' rb', appendA 1 w s x m = some (s', m') ∧ Row m' s' (l ++ new) rb' ∧ Fr m m' rb.toList ∧ (rb' = rb ∨ rb' = some m.next) := by
  unfold appendA
  rw [hx.src]
  simp only [hone, not_true_eq_false, if_false]
  rcases hr with ⟨⟨sz0, ex0, rfl⟩, rfl, rfl⟩ | ⟨b, sp, ex, rfl, rfl, hb⟩
  · simp only
    by_cases h0 : new.length = 0
    · rw [if_pos h0]
      have : new = [] := List.length_eq_zero_iff.1 h0
      subst this
      exact ⟨_, _, none, rfl, .inl ⟨⟨_, _, rfl⟩, rfl, rfl⟩, (Fr.refl m), .inl rfl⟩
    · rw [if_neg h0, if_pos (by simpa using hw)]
      refine ⟨_, _, some m.next, rfl, .inr ⟨m.next, [], false, rfl, by simp, by simp [Mem.get_lay]⟩, Fr.alloc _ _, .inr rfl⟩
  · simp only [true_or, if_true, Nat.mul_one, Nat.zero_add]
    by_cases h1 : l.length + new.length ≤ l.length + sp.length
    · rw [if_pos h1]
      have hst : stCells m ⟨b, l.length⟩ new = some (m.put b (some (.cells (l ++ new ++ sp.drop new.length) false))) := by
        simp only [stCells, hb]
        rw [if_pos (by simp; omega)]
        congr 4
        rw [List.take_left, List.drop_append]
        congr 1
        rw [List.drop_eq_nil_of_le (by omega), List.nil_append]
        congr 1; omega
      rw [hst]
      refine ⟨_, _, some b, rfl, .inr ⟨b, sp.drop new.length, ex, rfl, ?_, ?_⟩, (Fr.put m b _), .inl rfl⟩
      · congr 1 <;> simp; omega
      · rw [Mem.get_put, if_pos ⟨rfl, Mem.get_lt hb⟩]
    · rw [if_neg h1, if_pos hw]
      have hl : ldCells m ⟨b, 0⟩ l.length = some l := by simp [ldCells, hb]
      rw [hl]
      simp only
      cases ex with
      | true =>
        simp only [if_true]
        refine ⟨_, _, some m.next, rfl, .inr ⟨m.next, [], false, rfl, by simp, by simp [Mem.get_lay]⟩, (Fr.alloc _ _).mono (by simp), .inr rfl⟩
      | false =>
        simp only [Bool.false_eq_true, if_false, hb]
        refine ⟨_, _, some m.next, rfl, .inr ⟨m.next, [], false, rfl, by simp, by simp [Mem.get_lay]⟩, ?_, .inr rfl⟩
        exact (Fr.put m b none).trans (Fr.alloc _ _) (by simp) (by simp)

/-- One is taken out, in place. -/
theorem remove_row {m : Mem} {s : AV} {l : List AV} {rb : Option Nat} {w k : Nat} (hr : Row m s l rb) (hk : k < l.length) (hone : l.all AV.one = true) :
    ∃ a cap ex s' m', s = .sl (some a) 1 l.length cap ex ∧ k ≤ cap ∧ l.length ≤ cap ∧ rb = some a.b ∧
      appendA 1 w (.sl (some ⟨a.b, a.o⟩) 1 k cap ex) (.sl (some ⟨a.b, a.o + (k + 1)⟩) 1 (l.length - (k + 1)) (cap - (k + 1)) ex) m = some (s', m') ∧
      Row m' s' (l.eraseIdx k) rb ∧ Fr m m' rb.toList ∧ m'.next = m.next := by
  rcases hr with ⟨⟨sz0, ex0, rfl⟩, rfl, rfl⟩ | ⟨b, sp, ex, rfl, rfl, hb⟩
  · simp at hk
  · have hx : Sl m (.sl (some ⟨b, 0 + (k + 1)⟩) 1 (l.drop (k + 1)).length (l.length + sp.length - (k + 1)) ex) (l.drop (k + 1)) := by
      refine .inr ⟨_, _, _, _, _, _, rfl, .inl rfl, by simp; omega, hb, by simp; omega, ?_⟩
      simp only [Nat.zero_add]
      rw [List.drop_append_of_le_length (by omega), List.take_left]
    have hlen : l.length - (k + 1) = (l.drop (k + 1)).length := by simp
    rw [hlen]
    refine ⟨⟨b, 0⟩, _, ex, .sl (some ⟨b, 0⟩) 1 (k + (l.drop (k + 1)).length) (l.length + sp.length) ex, m.put b (some (.cells (l.take k ++ l.drop (k + 1) ++ (l ++ sp).drop (k + (l.drop (k + 1)).length)) false)), rfl, by omega, by omega, rfl, ?_, ?_, (Fr.put m b _), rfl⟩
    · unfold appendA
      rw [hx.src]
      have : (l.drop (k + 1)).all AV.one = true := by
        rw [List.all_eq_true] at hone ⊢
        exact fun v hv => hone v (List.mem_of_mem_drop hv)
      simp only [this, not_true_eq_false, if_false, true_or, if_true, Nat.mul_one, Nat.zero_add]
      rw [if_pos (by simp; omega)]
      simp only [stCells, hb]
      rw [if_pos (by simp; omega)]
      simp only [Option.map_some]
      rw [List.take_append_of_le_length (by omega)]
    · have he : l.eraseIdx k = l.take k ++ l.drop (k + 1) := List.eraseIdx_eq_take_drop_succ _ _
      have hl : (l.eraseIdx k).length = k + (l.drop (k + 1)).length := by rw [he]; simp; omega
      refine .inr ⟨b, (l ++ sp).drop (k + (l.drop (k + 1)).length), ex, rfl, ?_, ?_⟩
      · rw [hl]; congr 1; simp; omega
      · rw [Mem.get_put, if_pos ⟨rfl, Mem.get_lt hb⟩, he]
end Go.Abs
