/- A ledger's data, and a ledger in the abstract memory. No statement of a claim stands here. -/
import Derived.Test.YtlginbmjiecglaaAbs30
namespace Go.Abs
open Go

structure Wd where
  hi : Int
  lo : Int
  deriving DecidableEq
def Wd.cells (w : Wd) : List AV := [.int .i64 w.hi, .int .u64 w.lo]
structure PurseV where
  name : List UInt8
  scale : Int
  out : Wd
  deriving DecidableEq
def PurseV.cells (p : PurseV) : List AV := [.str p.name, .int .i64 p.scale, .int .i64 p.out.hi, .int .u64 p.out.lo]
structure PairV where
  x : List UInt8
  y : List UInt8
  rate : Wd
  rscale : Int
  inx : Wd
  outy : Wd
  deriving DecidableEq
def PairV.cells (p : PairV) : List AV := [.str p.x, .str p.y, .int .i64 p.rate.hi, .int .u64 p.rate.lo, .int .i64 p.rscale, .int .i64 p.inx.hi, .int .u64 p.inx.lo, .int .i64 p.outy.hi, .int .u64 p.outy.lo]
def PairV.key (p : PairV) : List UInt8 := p.x ++ p.y
structure AccV where
  id : Int
  coin : List UInt8
  bal : Wd
  deriving DecidableEq
def AccV.cells (a : AccV) : List AV := [.int .u64 a.id, .str a.coin, .int .i64 a.bal.hi, .int .u64 a.bal.lo]
structure LSt where
  purses : List PurseV
  pairs : List PairV
  accs : List AccV
  latest : Int
  most : Int

@[simp] theorem PurseV.cells_len (p : PurseV) : p.cells.length = 4 := rfl
@[simp] theorem PairV.cells_len (p : PairV) : p.cells.length = 9 := rfl
@[simp] theorem AccV.cells_len (p : AccV) : p.cells.length = 4 := rfl
theorem PurseV.cells_one (p : PurseV) : p.cells.all AV.one = true := rfl
theorem PairV.cells_one (p : PairV) : p.cells.all AV.one = true := rfl
theorem AccV.cells_one (p : AccV) : p.cells.all AV.one = true := rfl

def Dj (a b : List Nat) : Prop := ∀ c, c ∈ a → c ∉ b
theorem Dj.symm {a b : List Nat} (h : Dj a b) : Dj b a := fun c h1 h2 => h c h2 h1
/-- What is new is apart from what was there. -/
theorem Dj.step {a a' b : List Nat} {n : Nat} (h : Dj a b) (ha : ∀ c, c ∈ a' → c ∈ a ∨ n ≤ c) (hb : ∀ c, c ∈ b → c < n) : Dj a' b := fun c h1 h2 => by
  rcases ha c h1 with h3 | h3
  · exact h c h3 h2
  · have := hb c h2; omega

structure LedgerAt (m : Mem) (b : Nat) (st : LSt) (F : List Nat) : Prop where
  ex : ∃ tp tq ta FP FQ FA, m.get b = some (.cells [.int .i64 st.most, .ptr (some ⟨tp, 0⟩), .ptr (some ⟨tq, 0⟩), .ptr (some ⟨ta, 0⟩), .int .u64 st.latest] false) ∧
    TabAt .str 4 m tp (st.purses.map (·.name)) (st.purses.map (·.cells)) 8 FP ∧ TabAt .str 9 m tq (st.pairs.map (·.key)) (st.pairs.map (·.cells)) 64 FQ ∧
    TabAt (.int .u64) 4 m ta (st.accs.map (·.id)) (st.accs.map (·.cells)) st.most FA ∧ b ∉ FP ∧ b ∉ FQ ∧ b ∉ FA ∧ Dj FP FQ ∧ Dj FP FA ∧ Dj FQ FA ∧ F = b :: (FP ++ FQ ++ FA)

section
variable {m m' : Mem} {b : Nat} {st : LSt} {F S : List Nat}
theorem LedgerAt.frame (h : LedgerAt m b st F) (hf : Fr m m' S) (hd : ∀ c, c ∈ F → c ∉ S) : LedgerAt m' b st F := by
  obtain ⟨tp, tq, ta, FP, FQ, FA, h1, h2, h3, h4, h5, h6, h7, h8, h9, h10, rfl⟩ := h.ex
  exact ⟨tp, tq, ta, FP, FQ, FA, hf.get h1 (hd _ (by simp)), h2.frame hf (fun c hc => hd c (by simp [hc])), h3.frame hf (fun c hc => hd c (by simp [hc])), h4.frame hf (fun c hc => hd c (by simp [hc])), h5, h6, h7, h8, h9, h10, rfl⟩
theorem LedgerAt.frame0 (h : LedgerAt m b st F) (hf : Fr m m' []) : LedgerAt m' b st F := h.frame hf (by simp)
theorem LedgerAt.lt (h : LedgerAt m b st F) : ∀ c, c ∈ F → c < m.next := by
  obtain ⟨tp, tq, ta, FP, FQ, FA, h1, h2, h3, h4, h5, h6, h7, h8, h9, h10, rfl⟩ := h.ex
  intro c hc
  simp only [List.mem_cons, List.mem_append] at hc
  rcases hc with rfl | (hc | hc) | hc
  · exact Mem.get_lt h1
  · exact h2.lt c hc
  · exact h3.lt c hc
  · exact h4.lt c hc

/-- Its purses have changed. -/
theorem LedgerAt.purses {tp tq ta : Nat} {FP FQ FA FP' : List Nat} {ps : List PurseV}
    (h1 : m.get b = some (.cells [.int .i64 st.most, .ptr (some ⟨tp, 0⟩), .ptr (some ⟨tq, 0⟩), .ptr (some ⟨ta, 0⟩), .int .u64 st.latest] false))
    (h2 : TabAt .str 4 m tp (st.purses.map (·.name)) (st.purses.map (·.cells)) 8 FP) (h3 : TabAt .str 9 m tq (st.pairs.map (·.key)) (st.pairs.map (·.cells)) 64 FQ) (h4 : TabAt (.int .u64) 4 m ta (st.accs.map (·.id)) (st.accs.map (·.cells)) st.most FA)
    (h5 : b ∉ FP) (h6 : b ∉ FQ) (h7 : b ∉ FA) (h8 : Dj FP FQ) (h9 : Dj FP FA) (h10 : Dj FQ FA)
    (hf : Fr m m' FP) (ht : TabAt .str 4 m' tp (ps.map (·.name)) (ps.map (·.cells)) 8 FP') (hs : ∀ c, c ∈ FP' → c ∈ FP ∨ m.next ≤ c) :
    ∃ F', LedgerAt m' b { st with purses := ps } F' ∧ Fr m m' (b :: (FP ++ FQ ++ FA)) ∧ ∀ c, c ∈ F' → c ∈ b :: (FP ++ FQ ++ FA) ∨ m.next ≤ c := by
  refine ⟨b :: (FP' ++ FQ ++ FA), ⟨tp, tq, ta, FP', FQ, FA, hf.get h1 h5, ht, h3.frame hf h8.symm, h4.frame hf h9.symm, ?_, h6, h7, h8.step hs h3.lt, h9.step hs h4.lt, h10, rfl⟩, hf.mono (by simp +contextual), ?_⟩
  · intro hb
    rcases hs b hb with h | h
    · exact h5 h
    · have := Mem.get_lt h1; omega
  · intro c hc
    simp only [List.mem_cons, List.mem_append] at hc ⊢
    rcases hc with rfl | (hc | hc) | hc
    · exact .inl (.inl rfl)
    · rcases hs c hc with h | h
      · exact .inl (.inr (.inl (.inl h)))
      · exact .inr h
    · exact .inl (.inr (.inl (.inr hc)))
    · exact .inl (.inr (.inr hc))
/-- Its accounts have changed. -/
theorem LedgerAt.accs {tp tq ta : Nat} {FP FQ FA FA' : List Nat} {as : List AccV}
    (h1 : m.get b = some (.cells [.int .i64 st.most, .ptr (some ⟨tp, 0⟩), .ptr (some ⟨tq, 0⟩), .ptr (some ⟨ta, 0⟩), .int .u64 st.latest] false))
    (h2 : TabAt .str 4 m tp (st.purses.map (·.name)) (st.purses.map (·.cells)) 8 FP) (h3 : TabAt .str 9 m tq (st.pairs.map (·.key)) (st.pairs.map (·.cells)) 64 FQ) (h4 : TabAt (.int .u64) 4 m ta (st.accs.map (·.id)) (st.accs.map (·.cells)) st.most FA)
    (h5 : b ∉ FP) (h6 : b ∉ FQ) (h7 : b ∉ FA) (h8 : Dj FP FQ) (h9 : Dj FP FA) (h10 : Dj FQ FA)
    (hf : Fr m m' FA) (ht : TabAt (.int .u64) 4 m' ta (as.map (·.id)) (as.map (·.cells)) st.most FA') (hs : ∀ c, c ∈ FA' → c ∈ FA ∨ m.next ≤ c) :
    ∃ F', LedgerAt m' b { st with accs := as } F' ∧ Fr m m' (b :: (FP ++ FQ ++ FA)) ∧ ∀ c, c ∈ F' → c ∈ b :: (FP ++ FQ ++ FA) ∨ m.next ≤ c := by
  refine ⟨b :: (FP ++ FQ ++ FA'), ⟨tp, tq, ta, FP, FQ, FA', hf.get h1 h7, h2.frame hf h9, h3.frame hf h10, ht, h5, h6, ?_, h8, (h9.symm.step hs h2.lt).symm, (h10.symm.step hs h3.lt).symm, rfl⟩, hf.mono (by simp +contextual), ?_⟩
  · intro hb
    rcases hs b hb with h | h
    · exact h7 h
    · have := Mem.get_lt h1; omega
  · intro c hc
    simp only [List.mem_cons, List.mem_append] at hc ⊢
    rcases hc with rfl | (hc | hc) | hc
    · exact .inl (.inl rfl)
    · exact .inl (.inr (.inl (.inl hc)))
    · exact .inl (.inr (.inl (.inr hc)))
    · rcases hs c hc with h | h
      · exact .inl (.inr (.inr h))
      · exact .inr h
/-- Its pairs have changed. -/
theorem LedgerAt.pairs {tp tq ta : Nat} {FP FQ FA FQ' : List Nat} {qs : List PairV}
    (h1 : m.get b = some (.cells [.int .i64 st.most, .ptr (some ⟨tp, 0⟩), .ptr (some ⟨tq, 0⟩), .ptr (some ⟨ta, 0⟩), .int .u64 st.latest] false))
    (h2 : TabAt .str 4 m tp (st.purses.map (·.name)) (st.purses.map (·.cells)) 8 FP) (h3 : TabAt .str 9 m tq (st.pairs.map (·.key)) (st.pairs.map (·.cells)) 64 FQ) (h4 : TabAt (.int .u64) 4 m ta (st.accs.map (·.id)) (st.accs.map (·.cells)) st.most FA)
    (h5 : b ∉ FP) (h6 : b ∉ FQ) (h7 : b ∉ FA) (h8 : Dj FP FQ) (h9 : Dj FP FA) (h10 : Dj FQ FA)
    (hf : Fr m m' FQ) (ht : TabAt .str 9 m' tq (qs.map (·.key)) (qs.map (·.cells)) 64 FQ') (hs : ∀ c, c ∈ FQ' → c ∈ FQ ∨ m.next ≤ c) :
    ∃ F', LedgerAt m' b { st with pairs := qs } F' ∧ Fr m m' (b :: (FP ++ FQ ++ FA)) ∧ ∀ c, c ∈ F' → c ∈ b :: (FP ++ FQ ++ FA) ∨ m.next ≤ c := by
  refine ⟨b :: (FP ++ FQ' ++ FA), ⟨tp, tq, ta, FP, FQ', FA, hf.get h1 h6, h2.frame hf h8, ht, h4.frame hf h10.symm, h5, ?_, h7, (h8.symm.step hs h2.lt).symm, h9, h10.step hs h4.lt, rfl⟩, hf.mono (by simp +contextual), ?_⟩
  · intro hb
    rcases hs b hb with h | h
    · exact h6 h
    · have := Mem.get_lt h1; omega
  · intro c hc
    simp only [List.mem_cons, List.mem_append] at hc ⊢
    rcases hc with rfl | (hc | hc) | hc
    · exact .inl (.inl rfl)
    · exact .inl (.inr (.inl (.inl hc)))
    · rcases hs c hc with h | h
      · exact .inl (.inr (.inl (.inr h)))
      · exact .inr h
    · exact .inl (.inr (.inr hc))
end

theorem LedgerAt.latest {m : Mem} {b : Nat} {st : LSt} {tp tq ta : Nat} {FP FQ FA : List Nat} (n : Int)
    (h1 : m.get b = some (.cells [.int .i64 st.most, .ptr (some ⟨tp, 0⟩), .ptr (some ⟨tq, 0⟩), .ptr (some ⟨ta, 0⟩), .int .u64 st.latest] false))
    (h2 : TabAt .str 4 m tp (st.purses.map (·.name)) (st.purses.map (·.cells)) 8 FP) (h3 : TabAt .str 9 m tq (st.pairs.map (·.key)) (st.pairs.map (·.cells)) 64 FQ) (h4 : TabAt (.int .u64) 4 m ta (st.accs.map (·.id)) (st.accs.map (·.cells)) st.most FA)
    (h5 : b ∉ FP) (h6 : b ∉ FQ) (h7 : b ∉ FA) {m' : Mem} (hm : m' = m.put b (some (.cells [.int .i64 st.most, .ptr (some ⟨tp, 0⟩), .ptr (some ⟨tq, 0⟩), .ptr (some ⟨ta, 0⟩), .int .u64 n] false))) :
    stV m (.ptr (some ⟨b, 4⟩)) (.int .u64 n) 1 = some m' ∧ Fr m m' [b] ∧ m'.get b = some (.cells [.int .i64 st.most, .ptr (some ⟨tp, 0⟩), .ptr (some ⟨tq, 0⟩), .ptr (some ⟨ta, 0⟩), .int .u64 n] false) ∧
      TabAt .str 4 m' tp (st.purses.map (·.name)) (st.purses.map (·.cells)) 8 FP ∧ TabAt .str 9 m' tq (st.pairs.map (·.key)) (st.pairs.map (·.cells)) 64 FQ ∧ TabAt (.int .u64) 4 m' ta (st.accs.map (·.id)) (st.accs.map (·.cells)) st.most FA := by
  subst hm
  have hf := Fr.put m b (some (.cells [.int .i64 st.most, .ptr (some ⟨tp, 0⟩), .ptr (some ⟨tq, 0⟩), .ptr (some ⟨ta, 0⟩), .int .u64 n] false))
  refine ⟨?_, hf, put_self h1, h2.frame hf ?_, h3.frame hf ?_, h4.frame hf ?_⟩
  · have := stV_at (v := .int .u64 n) (o := 4) (n := 1) h1 rfl rfl (by simp)
    simpa using this
  · intro c hc hm; simp only [List.mem_singleton] at hm; subst hm; exact h5 hc
  · intro c hc hm; simp only [List.mem_singleton] at hm; subst hm; exact h6 hc
  · intro c hc hm; simp only [List.mem_singleton] at hm; subst hm; exact h7 hc

theorem insL_map {α β : Type} (f : α → β) (i : Nat) (x : α) (l : List α) : (insL i x l).map f = insL i (f x) (l.map f) := by simp [insL]

/-- Three capital letters? -/
def nameB (s : List UInt8) : Bool := s.all (fun c => decide (65 ≤ c.toNat) && decide (c.toNat ≤ 90)) && decide (s.length = 3)

/-- What Coin and Open do. -/
def coinF (st : LSt) (name : List UInt8) (scale : Int) : Int × LSt :=
  if nameB name = false then (41, st) else if 18 < scale then (21, st) else if hasK strLess name (st.purses.map (·.name)) = true then (45, st)
  else if 8 ≤ st.purses.length then (2, st) else (0, { st with purses := insL (lb strLess name (st.purses.map (·.name))) ⟨name, scale, ⟨0, 0⟩⟩ st.purses })
def openF (st : LSt) (name : List UInt8) : Int × Int × LSt :=
  if hasK strLess name (st.purses.map (·.name)) = false then (0, 41, st) else if st.most ≤ st.accs.length ∨ 72057594037927935 ≤ st.latest then (0, 2, st)
  else (st.latest + 1, 0, { st with latest := st.latest + 1, accs := st.accs ++ [⟨st.latest + 1, name, ⟨0, 0⟩⟩] })
end Go.Abs
