/- BagPlays on the abstract machine. -/
import Derived.Test.YtdmenbeiepfdiaaBagM
namespace Go.Proofs.Ytdmenbeiepfdiaa
open Go Go.Abs

theorem _root_.Go.Abs.Fr.tr {m m' m'' : Mem} (h : Fr m m' []) (h' : Fr m' m'' []) : Fr m m'' [] := h.trans h' (by simp) (by simp)

/-- Steps, in memory. -/
def St (m : Mem) (s : AV) (l : List (Int × Int × Bool)) : Prop :=
  (∃ a sz cap ex, s = .sl a sz 0 cap ex ∧ l = []) ∨
  ∃ a cap cs ro, s = .sl (some a) 0 l.length cap true ∧ m.get a.b = some (.cells cs ro) ∧
    ∀ i (h : i < l.length), cs[a.o + i * 3]? = some (I l[i].1) ∧ cs[a.o + i * 3 + 1]? = some (I l[i].2.1) ∧ cs[a.o + i * 3 + 2]? = some (.bool l[i].2.2)
theorem St.frame {m m' : Mem} {s : AV} {l : List (Int × Int × Bool)} (h : St m s l) (hf : Fr m m' []) : St m' s l := by
  rcases h with h | ⟨a, cap, cs, ro, h1, h2, h3⟩
  · exact .inl h
  · exact .inr ⟨a, cap, cs, ro, h1, hf.get h2 (by simp), h3⟩
theorem St.len {m : Mem} {s : AV} {l : List (Int × Int × Bool)} (h : St m s l) : ∃ a sz cap ex, s = .sl a sz l.length cap ex := by
  rcases h with ⟨a, sz, cap, ex, rfl, rfl⟩ | ⟨a, cap, cs, ro, rfl, _⟩
  · exact ⟨_, _, _, _, rfl⟩
  · exact ⟨_, _, _, _, rfl⟩
theorem St.at {m : Mem} {s : AV} {l : List (Int × Int × Bool)} (h : St m s l) {i : Nat} (hi : i < l.length) :
    ∃ a cap, s = .sl (some a) 0 l.length cap true ∧ ixA 3 l.length a (i : Int) = some (.ptr (some ⟨a.b, a.o + i * 3⟩)) ∧
      ld1 m (.ptr (some ⟨a.b, a.o + i * 3⟩)) = some (I l[i].1) ∧ ld1 m (.ptr (some ⟨a.b, a.o + i * 3 + 1⟩)) = some (I l[i].2.1) ∧ ld1 m (.ptr (some ⟨a.b, a.o + i * 3 + 2⟩)) = some (.bool l[i].2.2) := by
  rcases h with ⟨a, sz, cap, ex, rfl, rfl⟩ | ⟨a, cap, cs, ro, h1, h2, h3⟩
  · simp at hi
  · obtain ⟨h4, h5, h6⟩ := h3 i hi
    exact ⟨a, cap, h1, by simp [ixA, hi], by rw [ld1_of h2, h4], by rw [ld1_of h2, h5], by rw [ld1_of h2, h6]⟩

theorem len42 (a : Option AA) (sz n c : Nat) (e : Bool) : lenT Try.prog 42 (.sl a sz n c e) = some (.int .i64 n) := by kernel_rfl
theorem ix42 (a : AA) (sz n c : Nat) (e : Bool) (k : IntKind) (i : Int) : indexAddrA Try.prog 42 (.sl (some a) sz n c e) (.int k i) = if 3 = sz ∨ e = true then ixA 3 n a i else none := by kernel_rfl
theorem fa47_0 (a : AA) : fieldAddrA Try.prog 47 (.ptr (some a)) 0 = some (.ptr (some ⟨a.b, a.o⟩)) := by kernel_rfl
theorem fa47_1 (a : AA) : fieldAddrA Try.prog 47 (.ptr (some a)) 1 = some (.ptr (some ⟨a.b, a.o + 1⟩)) := by kernel_rfl
theorem fa47_2 (a : AA) : fieldAddrA Try.prog 47 (.ptr (some a)) 2 = some (.ptr (some ⟨a.b, a.o + 2⟩)) := by kernel_rfl
theorem ld4 (p : AV) (m : Mem) : loadA Try.prog 4 p m = ld1 m p := by kernel_rfl
theorem eqb4 (x y : Bool) : binA Try.prog .eql 4 (.bool x) (.bool y) = some (.bool (x == y)) := by kernel_rfl
theorem ptr_nil : binA Try.prog .eql 23 (.ptr none) (.ptr none) = some (.bool true) := by kernel_rfl

/-- The bag and the document's, apart from one another and from what was there. -/
structure Two (m0 m : Mem) (b : Nat) (rb : Option Nat) (r : Nat) (rrb : Option Nat) (most : Int) (xl : List AV) (lost : Int) (yl : List AV) (lost2 : Int) : Prop where
  bag : BagAt m b rb xl most lost
  ref : RefAt m r rrb yl most lost2
  fr : Fr m0 m []
  b0 : m0.next ≤ b
  r0 : m0.next ≤ r
  ne : b ≠ r
  rb0 : ∀ c, rb = some c → m0.next ≤ c ∧ c ≠ r ∧ rrb ≠ some c
  rr0 : ∀ c, rrb = some c → m0.next ≤ c ∧ c ≠ b

section
variable {m0 m : Mem} {b : Nat} {rb : Option Nat} {r : Nat} {rrb : Option Nat} {most : Int} {xl yl xl' yl' : List AV} {lost lost2 lost' : Int} {v : AV} {R : R}

theorem Two.onBag (h : Two m0 m b rb r rrb most xl lost yl lost2) (hb : BagTo m b rb v xl' most lost' R) : ∃ m' rb', R = some (v, m') ∧ Two m0 m' b rb' r rrb most xl' lost' yl lost2 := by
  obtain ⟨m', rb', h1, h2, h3, h4⟩ := hb
  have hr := h.ref.lt
  have hrr : ∀ c, rrb = some c → c < m.next := fun c hc => by have := h.ref; rw [hc] at this; exact this.rlt
  refine ⟨m', rb', h1, h2, h.ref.frame h3 ?_ ?_, h.fr.trans h3 (by simp) ?_, h.b0, h.r0, h.ne, ?_, h.rr0⟩
  · simp only [List.mem_cons, Option.mem_toList, not_or]
    exact ⟨fun e => h.ne e.symm, fun e => (h.rb0 r e).2.1 rfl⟩
  · intro c hc
    simp only [List.mem_cons, Option.mem_toList, not_or]
    exact ⟨(h.rr0 c hc).2, fun e => (h.rb0 c e).2.2 hc⟩
  · intro c hc hlt
    simp only [List.mem_cons, Option.mem_toList] at hc
    rcases hc with rfl | hc
    · have := h.b0; omega
    · have := (h.rb0 c hc).1; omega
  · intro c hc
    rcases h4 with e | ⟨n, e, hn⟩
    · exact h.rb0 c (by rw [← e, hc])
    · rw [e] at hc; cases hc
      have := h.fr.1
      exact ⟨by omega, by omega, fun e => by have := hrr _ e; omega⟩

theorem Two.onRef (h : Two m0 m b rb r rrb most xl lost yl lost2) (hb : RefTo m r rrb v yl' most lost' R) : ∃ m' rrb', R = some (v, m') ∧ Two m0 m' b rb r rrb' most xl lost yl' lost' := by
  obtain ⟨m', rb', h1, h2, h3, h4⟩ := hb
  have hr := h.bag.lt
  have hrr : ∀ c, rb = some c → c < m.next := fun c hc => by have := h.bag; rw [hc] at this; exact this.rlt
  refine ⟨m', rb', h1, h.bag.frame h3 ?_ ?_, h2, h.fr.trans h3 (by simp) ?_, h.b0, h.r0, h.ne, ?_, ?_⟩
  · simp only [List.mem_cons, Option.mem_toList, not_or]
    exact ⟨h.ne, fun e => (h.rr0 b e).2 rfl⟩
  · intro c hc
    simp only [List.mem_cons, Option.mem_toList, not_or]
    exact ⟨(h.rb0 c hc).2.1, (h.rb0 c hc).2.2⟩
  · intro c hc hlt
    simp only [List.mem_cons, Option.mem_toList] at hc
    rcases hc with rfl | hc
    · have := h.r0; omega
    · have := (h.rr0 c hc).1; omega
  · intro c hc
    refine ⟨(h.rb0 c hc).1, (h.rb0 c hc).2.1, fun e2 => ?_⟩
    rcases h4 with e | ⟨n, e, hn⟩
    · exact (h.rb0 c hc).2.2 (by rw [← e, e2])
    · rw [e] at e2; cases e2; have := hrr _ hc; omega
  · intro c hc
    rcases h4 with e | ⟨n, e, hn⟩
    · exact h.rr0 c (by rw [← e, hc])
    · rw [e] at hc; cases hc
      have := h.fr.1
      exact ⟨by omega, by omega⟩
end

abbrev Q (b : Nat) : AV := .ptr (some ⟨b, 0⟩)

section
variable {m0 m : Mem} {b : Nat} {rb : Option Nat} {r : Nat} {rrb : Option Nat} {most : Int} {xs : List Int} {lost : Int} {s : AV} {l : List (Int × Int × Bool)}

/-- One step. -/
theorem play_step (hs : St m0 s l) {i : Nat} (hi : i < l.length) (h : Two m0 m b rb r rrb most (xs.map I) lost (xs.map I) lost) (hx : xs.length ≤ 256) (hm : most ≤ 256) (hxm : xs.length ≤ most) (k : Int) :
    ∃ (m' : Mem) (rb' rrb' : Option Nat) (xs' : List Int) (lost' : Int), g5_5 s (Q b) (Q r) (.int .i64 i) (I k) m = g5_6 s (Q b) (Q r) (.int .i64 i) (.bool true) m' ∧ Two m0 m' b rb' r rrb' most (xs'.map I) lost' (xs'.map I) lost' ∧ xs'.length ≤ 256 ∧ xs'.length ≤ most := by
  obtain ⟨a, cap, rfl, e1, e2, e3, e4⟩ := (hs.frame h.fr).at hi
  have hw0 : (0 : Int) ≤ l[i].1 % 5 := Int.emod_nonneg _ (by omega)
  have hw1 : l[i].1 % 5 < 5 := Int.emod_lt_of_pos _ (by omega)
  rw [g5_5_eq]
  simp only [ix42, or_true, if_true, e1, Option.bind_some, fa47_0, ld3, e2, pick_is m l[i].1 (show (0 : Int) < 5 by omega) (by omega), binA_eql]
  by_cases hin : 0 ≤ k ∧ k < xs.length
  · obtain ⟨n, rfl⟩ : ∃ n : Nat, k = n := ⟨k.toNat, by omega⟩
    have hn : n < (xs.map I).length := by simp; omega
    have hn' : n < xs.length := by omega
    by_cases c2 : l[i].1 % 5 = 2
    · obtain ⟨m1, rb1, r1, t1⟩ := h.onBag (takeI_in h.bag hn (by simp; omega))
      obtain ⟨m2, rb2, r2, t2⟩ := t1.onRef (rtake_in t1.ref hn (by simp; omega))
      simp only [decide_eq_true c2, condA, r1, r2, Option.bind_some, extractA, List.getElem?_cons_zero, List.getElem?_cons_succ, List.getElem_map, binA_eql, decide_true, ifV, eqb4, beq_self_eq_true]
      rw [mapI_erase] at t2
      exact ⟨m2, rb1, rb2, xs.eraseIdx n, lost, rfl, t2, by have := List.length_eraseIdx_le xs n; omega, by have := List.length_eraseIdx_le xs n; omega⟩
    · by_cases c3 : l[i].1 % 5 = 3
      · by_cases hf : most ≤ xs.length
        · have r1 := doubleI_full h.bag hn (by simpa using hf)
          have r2 := rdouble_full h.ref hn (by simpa using hf)
          simp only [decide_eq_false c2, decide_eq_true c3, condA, r1, r2, Option.bind_some, eqb4, beq_self_eq_true]
          exact ⟨m, rb, rrb, xs, lost, rfl, h, hx, hxm⟩
        · obtain ⟨m1, rb1, r1, t1⟩ := h.onBag (doubleI_ok h.bag hn (by simp; omega) (by simp; omega))
          obtain ⟨m2, rb2, r2, t2⟩ := t1.onRef (rdouble_ok t1.ref hn (by simp; omega) (by simp; omega))
          simp only [decide_eq_false c2, decide_eq_true c3, condA, r1, r2, Option.bind_some, eqb4, beq_self_eq_true]
          have e : xs.map I ++ [(xs.map I)[n]] = (xs ++ [xs[n]]).map I := by simp
          rw [e] at t2
          exact ⟨m2, rb1, rb2, xs ++ [xs[n]], lost, rfl, t2, by simp; omega, by simp; omega⟩
      · by_cases c4 : l[i].1 % 5 = 4
        · have r1 := peekI_in h.bag hn
          have r2 := rpeek_in h.ref hn
          simp only [decide_eq_false c2, decide_eq_false c3, decide_eq_true c4, condA, r1, r2, Option.bind_some, extractA, List.getElem?_cons_zero, List.getElem?_cons_succ, List.getElem_map, binA_eql, decide_true, ifV, eqb4, beq_self_eq_true]
          exact ⟨m, rb, rrb, xs, lost, rfl, h, hx, hxm⟩
        · simp only [decide_eq_false c2, decide_eq_false c3, decide_eq_false c4, condA, Option.bind_some, fa47_1, e3, ld3]
          by_cases hf : most ≤ xs.length
          · obtain ⟨m1, rb1, r1, t1⟩ := h.onBag (putI_full h.bag (by simpa using hf) (I l[i].2.1))
            obtain ⟨a', cap', e, _, _, f3, _⟩ := (hs.frame t1.fr).at hi
            cases e
            obtain ⟨m2, rb2, r2, t2⟩ := t1.onRef (rput_full t1.ref (by simpa using hf) (I l[i].2.1))
            simp only [r1, f3, r2, Option.bind_some, if_true, eqb4, beq_self_eq_true]
            exact ⟨m2, rb1, rb2, xs, _, rfl, t2, hx, hxm⟩
          · obtain ⟨m1, rb1, r1, t1⟩ := h.onBag (putI_ok h.bag (by simp; omega) (by simp; omega) (x := I l[i].2.1) rfl)
            obtain ⟨a', cap', e, _, _, f3, _⟩ := (hs.frame t1.fr).at hi
            cases e
            obtain ⟨m2, rb2, r2, t2⟩ := t1.onRef (rput_ok t1.ref (by simp; omega) (by simp; omega) (x := I l[i].2.1) rfl)
            simp only [r1, f3, r2, Option.bind_some, if_true, eqb4, beq_self_eq_true]
            have e : xs.map I ++ [I l[i].2.1] = (xs ++ [l[i].2.1]).map I := by simp
            rw [e] at t2
            exact ⟨m2, rb1, rb2, xs ++ [l[i].2.1], lost, rfl, t2, by simp; omega, by simp; omega⟩
  · have ho : k < 0 ∨ ((xs.map I).length : Int) ≤ k := by simp; omega
    by_cases c2 : l[i].1 % 5 = 2
    · simp only [decide_eq_true c2, condA, takeI_out h.bag ho, rtake_out h.ref ho, Option.bind_some, extractA, List.getElem?_cons_zero, List.getElem?_cons_succ, binA_eql, decide_true, ifV, eqb4, beq_self_eq_true]
      exact ⟨m, rb, rrb, xs, lost, rfl, h, hx, hxm⟩
    · by_cases c3 : l[i].1 % 5 = 3
      · simp only [decide_eq_false c2, decide_eq_true c3, condA, doubleI_out h.bag ho, rdouble_out h.ref ho, Option.bind_some, eqb4, beq_self_eq_true]
        exact ⟨m, rb, rrb, xs, lost, rfl, h, hx, hxm⟩
      · by_cases c4 : l[i].1 % 5 = 4
        · simp only [decide_eq_false c2, decide_eq_false c3, decide_eq_true c4, condA, peekI_out h.bag ho, rpeek_out h.ref ho, Option.bind_some, extractA, List.getElem?_cons_zero, List.getElem?_cons_succ, binA_eql, decide_true, ifV, eqb4, beq_self_eq_true]
          exact ⟨m, rb, rrb, xs, lost, rfl, h, hx, hxm⟩
        · simp only [decide_eq_false c2, decide_eq_false c3, decide_eq_false c4, condA, Option.bind_some, fa47_1, e3, ld3]
          by_cases hf : most ≤ xs.length
          · obtain ⟨m1, rb1, r1, t1⟩ := h.onBag (putI_full h.bag (by simpa using hf) (I l[i].2.1))
            obtain ⟨a', cap', e, _, _, f3, _⟩ := (hs.frame t1.fr).at hi
            cases e
            obtain ⟨m2, rb2, r2, t2⟩ := t1.onRef (rput_full t1.ref (by simpa using hf) (I l[i].2.1))
            simp only [r1, f3, r2, Option.bind_some, if_true, eqb4, beq_self_eq_true]
            exact ⟨m2, rb1, rb2, xs, _, rfl, t2, hx, hxm⟩
          · obtain ⟨m1, rb1, r1, t1⟩ := h.onBag (putI_ok h.bag (by simp; omega) (by simp; omega) (x := I l[i].2.1) rfl)
            obtain ⟨a', cap', e, _, _, f3, _⟩ := (hs.frame t1.fr).at hi
            cases e
            obtain ⟨m2, rb2, r2, t2⟩ := t1.onRef (rput_ok t1.ref (by simp; omega) (by simp; omega) (x := I l[i].2.1) rfl)
            simp only [r1, f3, r2, Option.bind_some, if_true, eqb4, beq_self_eq_true]
            have e : xs.map I ++ [I l[i].2.1] = (xs ++ [l[i].2.1]).map I := by simp
            rw [e] at t2
            exact ⟨m2, rb1, rb2, xs ++ [l[i].2.1], lost, rfl, t2, by simp; omega, by simp; omega⟩

theorem ref_row (h : RefAt m r rrb (xs.map I) most lost) : ∃ s, ld1 m (.ptr (some ⟨r, 2⟩)) = some s ∧ ld1 m (.ptr (some ⟨r, 1⟩)) = some (.int .i64 lost) ∧ Sl m s (xs.map I) ∧ ∃ a sz cap ex, s = .sl a sz xs.length cap ex := by
  obtain ⟨s, h1, h2, h3, h4⟩ := h
  obtain ⟨a, sz, cap, ex, e⟩ := h2.sl.len
  exact ⟨s, by rw [ld1_of h1]; rfl, by rw [ld1_of h1]; rfl, h2.sl, a, sz, cap, ex, by simpa using e⟩

/-- What is looked at behind a step. -/
theorem play_look (h : Two m0 m b rb r rrb most (xs.map I) lost (xs.map I) lost) (i : Nat) (hi : i < 65536) : g5_6 s (Q b) (Q r) (.int .i64 i) (.bool true) m = g5_3 s (Q b) (Q r) (.int .i64 (i + 1 : Nat)) m := by
  obtain ⟨s', h1, h2, _, a, sz, cap, ex, rfl⟩ := ref_row h.ref
  rw [g5_6_eq]
  simp only [unA, Bool.not_true, Option.bind_some, ifV, lenI_is h.bag, nnA, fa45_1, fa45_2, Nat.zero_add, ldS22, ld3, h1, h2, if_true, len22, List.length_map, binA_neq, decide_true, lostI_is h.bag, condA]
  rw [g5_7_eq]
  simp only [binA_add, Option.bind_some]
  rw [wrap64 (by omega) (by omega)]
  rfl

theorem mark_loop {n : Nat} {len cap : Nat} {ex : Bool} (hlen : len < 65536) (t : AV) : ∀ (d i : Nat) (m : Mem) (cs : List AV), i + d = len → m.get n = some (.cells cs false) → len ≤ cs.length →
    ∃ m', g5_9 (Q b) (Q r) (.sl (some ⟨n, 0⟩) 1 len cap ex) t (.int .i64 i) m = g5_12 (Q b) (Q r) t m' ∧ Fr m m' [n] := by
  intro d
  induction d with
  | zero =>
    intro i m cs hi hg hl
    refine ⟨m, ?_, (Fr.refl m).mono (by simp)⟩
    rw [g5_9_eq]
    simp only [len22, Option.bind_some, binA_lss, decide_eq_false (show ¬ (i : Int) < (len : Int) by omega), condA]
  | succ d ih =>
    intro i m cs hi hg hl
    have hst := stV1 (o := i) (v := I (-77)) hg rfl (by omega)
    obtain ⟨m', h1, h2⟩ := ih (i + 1) (m.put n (some (.cells (cs.take i ++ [I (-77)] ++ cs.drop (i + 1)) false))) (cs.take i ++ [I (-77)] ++ cs.drop (i + 1)) (by omega) (by rw [Mem.get_put, if_pos ⟨rfl, Mem.get_lt hg⟩]) (by simp only [List.length_append, List.length_take, List.length_drop, List.length_cons, List.length_nil]; omega)
    refine ⟨m', ?_, (Fr.put m n _).trans h2 (by simp) (by simp)⟩
    rw [g5_9_eq]
    simp only [len22, Option.bind_some, binA_lss, decide_eq_true (show (i : Int) < (len : Int) by omega), condA]
    rw [g5_10_eq]
    have hix : ixA 1 len ⟨n, 0⟩ (i : Int) = some (.ptr (some ⟨n, i⟩)) := by simp [ixA]; omega
    simp only [ix22, true_or, if_true, hix, Option.bind_some, hst]
    rw [g5_11_eq]
    simp only [binA_add, Option.bind_some]
    rw [wrap64 (by omega) (by omega)]
    exact h1

theorem play_end (h : Two m0 m b rb r rrb most (xs.map I) lost (xs.map I) lost) (hx : xs.length ≤ 256) : ∃ m', g5_8 (Q b) (Q r) m = some (.bool true, m') := by
  obtain ⟨s1, m1, n, h1, h2, h3, h4⟩ := allI_is h.bag (by simp; omega)
  have hr1 := h.ref.frame h4 (by simp) (by simp)
  have hb1 := h.bag.frame h4 (by simp) (by simp)
  obtain ⟨s2, k1, _, k3, _⟩ := ref_row hr1
  rw [g5_8_eq]
  simp only [h1, Option.bind_some, nnA, fa45_2, Nat.zero_add, ldS22, k1, same_is h2.sl k3 (by omega), decide_true]
  rcases h2 with ⟨_, _, e⟩ | ⟨n', sp, ex, e, rfl, hg⟩
  · cases e
  · cases e
    have hbl := h.bag.lt
    have hrl := h.ref.lt
    obtain ⟨m2, g1, g2⟩ := mark_loop (b := b) (r := r) (n := n) (len := (xs.map I).length) (cap := (xs.map I).length + sp.length) (ex := ex) (by simp; omega) (.bool true) (xs.map I).length 0 m1 _ (by omega) hg (by simp)
    have g1' : g5_9 (Q b) (Q r) (.sl (some ⟨n, 0⟩) 1 (xs.map I).length ((xs.map I).length + sp.length) ex) (.bool true) (.int .i64 0) m1 = g5_12 (Q b) (Q r) (.bool true) m2 := g1
    rw [g1', g5_12_eq]
    have hb2 := hb1.frame g2 (by simp; omega) (fun c hc => by subst hc; have := h.bag.rlt; simp; omega)
    have hr2 := hr1.frame g2 (by simp; omega) (fun c hc => by subst hc; have := h.ref.rlt; simp; omega)
    obtain ⟨s3, m3, n3, q1, q2, q3, q4⟩ := allI_is hb2 (by simp; omega)
    obtain ⟨s4, p1, _, p3, _⟩ := ref_row hr2
    obtain ⟨s5, p1', _, p3', _⟩ := ref_row (hr2.frame q4 (by simp) (by simp))
    have e5 : s5 = s4 := by
      obtain ⟨s', f1, _⟩ := hr2
      rw [ld1_of f1] at p1
      rw [ld1_of (q4.get f1 (by simp))] at p1'
      simp at p1 p1'
      rw [← p1, ← p1']
    subst e5
    simp only [ifV, q1, Option.bind_some, nnA, fa45_2, Nat.zero_add, ldS22, p1, p1', if_true, same_is q2.sl p3' (by omega), decide_true]
    exact ⟨_, rfl⟩

theorem play_loop (hs : St m0 s l) (hm : most ≤ 256) : ∀ (d i : Nat) (m : Mem) (rb rrb : Option Nat) (xs : List Int) (lost : Int), i + d = l.length → i ≤ 800 → Two m0 m b rb r rrb most (xs.map I) lost (xs.map I) lost → xs.length ≤ 256 → xs.length ≤ most →
    ∃ m', g5_3 s (Q b) (Q r) (.int .i64 i) m = some (.bool true, m') := by
  intro d
  induction d with
  | zero =>
    intro i m rb rrb xs lost hi h8 h hx hxm
    obtain ⟨a', sz, cap, ex, rfl⟩ := hs.len
    rw [g5_3_eq]
    simp only [len42, Option.bind_some, binA_lss, decide_eq_false (show ¬ (i : Int) < (l.length : Int) by omega), ifV]
    exact play_end h hx
  | succ d ih =>
    intro i m rb rrb xs lost hi h8 h hx hxm
    have hil : i < l.length := by omega
    rw [g5_3_eq]
    obtain ⟨a, cap, e0, e1, e2, e3, e4⟩ := (hs.frame h.fr).at hil
    subst e0
    simp only [len42, Option.bind_some, binA_lss, decide_eq_true (show (i : Int) < (l.length : Int) by omega), ifV]
    by_cases h9 : i = 800
    · subst h9
      simp only [show ((800 : Nat) : Int) = 800 from rfl, decide_eq_false (show ¬ (800 : Int) < 800 by omega), condA]
      exact play_end h hx
    · simp only [decide_eq_true (show (i : Int) < 800 by omega), condA]
      rw [g5_4_eq]
      simp only [ix42, or_true, if_true, e1, Option.bind_some, fa47_1, fa47_2, ld3, ld4, e3, e4]
      have key : ∀ k : Int, ∃ m', g5_5 (.sl (some a) 0 l.length cap true) (Q b) (Q r) (.int .i64 i) (I k) m = some (.bool true, m') := by
        intro k
        obtain ⟨m', rb', rrb', xs', lost', r1, t1, x1, x2⟩ := play_step hs hil h hx hm hxm k
        rw [r1, play_look t1 i (by omega)]
        exact ih (i + 1) m' rb' rrb' xs' lost' (by omega) (by omega) t1 x1 x2
      cases hnear : l[i].2.2 with
      | false => simp only [condA]; exact key _
      | true =>
        obtain ⟨s', h1, h2, _, a', sz, cap', ex, rfl⟩ := ref_row h.ref
        simp only [condA, nnA, Option.bind_some, fa45_2, Nat.zero_add, ldS22, h1, len22, binA_add]
        rw [wrap64 (by omega) (by omega)]
        simp only [pick_is m l[i].2.1 (show (0 : Int) < xs.length + 1 by omega) (by omega), Option.bind_some]
        exact key _
end

theorem plays_is {m : Mem} {s : AV} {l : List (Int × Int × Bool)} (hs : St m s l) (most : Int) : ∃ m', run E 5 [.int .i64 most, s] m = some (.bool true, m') := by
  rw [f5_eq]
  by_cases hm : most < 1 ∨ 256 < most
  · obtain ⟨m2, h2, f2⟩ := known_is m
    simp only [newI_bad hm, h2, Option.bind_some, extractA, List.getElem?_cons_zero, List.getElem?_cons_succ, unA, Bool.not_true, condA]
    rw [g5_0_eq]
    by_cases h1 : most < 1
    · simp only [binA_lss, decide_eq_true h1, Option.bind_some, ifV, binA_eql, decide_true, ptr_nil]
      exact ⟨_, rfl⟩
    · simp only [binA_lss, binA_gtr, decide_eq_false h1, decide_eq_true (show (256 : Int) < most by omega), Option.bind_some, ifV, condA, binA_eql, decide_true, ptr_nil]
      exact ⟨_, rfl⟩
  · obtain ⟨m1, h1, b1, f1⟩ := newI_ok (m := m) (most := most) (by omega)
    obtain ⟨m2, h2, f2⟩ := known_is m1
    simp only [h1, h2, Option.bind_some, extractA, List.getElem?_cons_zero, List.getElem?_cons_succ, unA, Bool.not_true, condA]
    rw [g5_0_eq]
    simp only [binA_lss, binA_gtr, decide_eq_false (show ¬ most < 1 by omega), decide_eq_false (show ¬ (256 : Int) < most by omega), Option.bind_some, ifV, condA]
    rw [g5_1_eq]
    simp only [binA_neq, decide_true, Bool.not_true, Option.bind_some, ifV, ptr_ne, condA]
    rw [g5_2_eq]
    have hb : buildA Try.prog 45 [(0, .int .i64 most)] = some (.agg [.int .i64 most, .int .i64 0, .sl none 0 0 0 true]) := by kernel_rfl
    rw [hb]
    have f3 := Fr.alloc m2 [.int .i64 most, .int .i64 0, .sl none 0 0 0 true]
    have b3 := (b1.frame f2 (by simp) (by simp)).frame f3 (by simp) (by simp)
    have hlt := b1.lt
    have hle := f2.1
    have hle1 := f1.1
    have t : Two m (m2.alloc [.int .i64 most, .int .i64 0, .sl none 0 0 0 true]) m.next none m2.next none most (([] : List Int).map I) 0 (([] : List Int).map I) 0 := by
      refine ⟨b3, ⟨_, by rw [Mem.get_alloc, if_pos rfl], .inl ⟨⟨_, _, rfl⟩, rfl, rfl⟩, by simp, rfl⟩, (f1.tr f2).tr f3, Nat.le_refl _, by omega, by omega, fun c hc => (by cases hc), fun c hc => (by cases hc)⟩
    exact play_loop hs (by omega) l.length 0 _ none none [] 0 (by omega) (by omega) t (by simp) (by simp; omega)
end Go.Proofs.Ytdmenbeiepfdiaa
