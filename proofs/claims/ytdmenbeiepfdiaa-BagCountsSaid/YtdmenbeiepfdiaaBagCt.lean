/- BagCounts on the abstract machine. -/
import Derived.Test.YtdmenbeiepfdiaaBagP
namespace Go.Proofs.Ytdmenbeiepfdiaa
open Go Go.Abs

theorem ptr_ne35 (a : AA) : binA Try.prog .eql 35 (.ptr (some a)) (.ptr none) = some (.bool false) := by kernel_rfl

structure Cnt (m0 m : Mem) (b : Nat) (rb : Option Nat) (most : Int) (l : List AV) (lost put kept : Int) (i : Nat) : Prop where
  bag : BagAt m b rb l most lost
  fr : Fr m0 m []
  b0 : m0.next ≤ b
  rb0 : ∀ c, rb = some c → m0.next ≤ c
  eq : lost = put - kept
  k0 : 0 ≤ kept
  kp : kept ≤ put
  pi : put ≤ i
  lm : l.length ≤ most

section
variable {m0 m : Mem} {b : Nat} {rb : Option Nat} {most lost put kept : Int} {l : List AV} {s : AV} {sl : List (Int × Int × Bool)} {i : Nat}

theorem count_step (hs : St m0 s sl) (hi : i < sl.length) (h8 : i < 1000) (h : Cnt m0 m b rb most l lost put kept i) (hm : most ≤ 256) :
    ∃ (m' : Mem) (rb' : Option Nat) (l' : List AV) (lost' put' kept' : Int), g6_2 (I most) s (Q b) (I l.length) (I put) (I kept) (I i) m = g6_3 (I most) s (Q b) (I l'.length) (I put') (I kept') (I i) m' ∧ Cnt m0 m' b rb' most l' lost' put' kept' (i + 1) := by
  obtain ⟨a, cap, rfl, e1, e2, e3, e4⟩ := (hs.frame h.fr).at hi
  obtain ⟨hB, hf, hb0, hrb0, heq, hk0, hkp, hpi, hlm⟩ := h
  generalize hk : sl[i].2.1 = k at e3
  rw [g6_2_eq]
  simp only [ix42, or_true, if_true, e1, Option.bind_some, fa47_0, fa47_1, ld3, e2, e3, pick_is m sl[i].1 (show (0 : Int) < 5 by omega) (by omega), binA_eql]
  have stay : Cnt m0 m b rb most l lost put kept (i + 1) := ⟨hB, hf, hb0, hrb0, heq, hk0, hkp, by omega, hlm⟩
  have hL : (l.length : Int) ≤ 256 := by omega
  by_cases c2 : sl[i].1 % 5 = 2
  · by_cases hin : 0 ≤ k ∧ k < l.length
    · obtain ⟨n, rfl⟩ : ∃ n : Nat, k = n := ⟨k.toNat, by omega⟩
      have hn : n < l.length := by omega
      obtain ⟨m1, r1, q1, b1, f1, n1⟩ := (takeS_in hB hn (by omega)).next hf hb0 hrb0
      have hlen : (l.eraseIdx n).length = l.length - 1 := by rw [List.length_eraseIdx]; simp [hn]
      simp only [decide_eq_true c2, condA, q1, Option.bind_some, extractA, List.getElem?_cons_zero, List.getElem?_cons_succ, binA_sub]
      rw [wrap64 (by omega) (by omega)]
      refine ⟨m1, r1, l.eraseIdx n, lost, put, kept, ?_, b1, f1, hb0, n1, heq, hk0, hkp, by omega, by omega⟩
      rw [hlen]
      congr 2; omega
    · simp only [decide_eq_true c2, condA, takeS_out hB (k := k) (by omega), Option.bind_some, extractA, List.getElem?_cons_zero, List.getElem?_cons_succ]
      exact ⟨m, rb, l, lost, put, kept, rfl, stay⟩
  · by_cases c3 : sl[i].1 % 5 = 3
    · by_cases hin : 0 ≤ k ∧ k < l.length
      · obtain ⟨n, rfl⟩ : ∃ n : Nat, k = n := ⟨k.toNat, by omega⟩
        have hn : n < l.length := by omega
        by_cases hfl : most ≤ l.length
        · simp only [decide_eq_false c2, decide_eq_true c3, condA, doubleS_full hB hn hfl, Option.bind_some]
          exact ⟨m, rb, l, lost, put, kept, rfl, stay⟩
        · obtain ⟨m1, r1, q1, b1, f1, n1⟩ := (doubleS_ok hB hn (by omega) (by omega)).next hf hb0 hrb0
          simp only [decide_eq_false c2, decide_eq_true c3, condA, q1, Option.bind_some, binA_add]
          rw [wrap64 (by omega) (by omega)]
          refine ⟨m1, r1, l ++ [l[n]], lost, put, kept, ?_, b1, f1, hb0, n1, heq, hk0, hkp, by omega, by simp; omega⟩
          simp
      · simp only [decide_eq_false c2, decide_eq_true c3, condA, doubleS_out hB (k := k) (by omega), Option.bind_some]
        exact ⟨m, rb, l, lost, put, kept, rfl, stay⟩
    · by_cases c4 : sl[i].1 % 5 = 4
      · by_cases hin : 0 ≤ k ∧ k < l.length
        · obtain ⟨n, rfl⟩ : ∃ n : Nat, k = n := ⟨k.toNat, by omega⟩
          simp only [decide_eq_false c2, decide_eq_false c3, decide_eq_true c4, condA, peekS_in hB (show n < l.length by omega), Option.bind_some]
          exact ⟨m, rb, l, lost, put, kept, rfl, stay⟩
        · simp only [decide_eq_false c2, decide_eq_false c3, decide_eq_true c4, condA, peekS_out hB (k := k) (by omega), Option.bind_some]
          exact ⟨m, rb, l, lost, put, kept, rfl, stay⟩
      · simp only [decide_eq_false c2, decide_eq_false c3, decide_eq_false c4, condA, Option.bind_some, binA_add]
        rw [wrap64 (x := put + 1) (by omega) (by omega)]
        by_cases hfl : most ≤ l.length
        · obtain ⟨m1, r1, q1, b1, f1, n1⟩ := (putS_full hB hfl (.str [120])).next hf hb0 hrb0
          rw [wrap64 (by omega) (by omega)] at b1
          simp only [q1, Option.bind_some]
          exact ⟨m1, r1, l, lost + 1, put + 1, kept, rfl, b1, f1, hb0, n1, by omega, hk0, by omega, by omega, hlm⟩
        · obtain ⟨m1, r1, q1, b1, f1, n1⟩ := (putS_ok hB (by omega) (by omega) (x := .str [120]) rfl).next hf hb0 hrb0
          simp only [q1, Option.bind_some]
          rw [wrap64 (by omega) (by omega), wrap64 (by omega) (by omega)]
          refine ⟨m1, r1, l ++ [.str [120]], lost, put + 1, kept + 1, ?_, b1, f1, hb0, n1, by omega, by omega, by omega, by omega, by simp; omega⟩
          simp

theorem count_look (h : Cnt m0 m b rb most l lost put kept (i + 1)) (hm : most ≤ 256) (h8 : i < 1000) :
    ∃ m', g6_3 (I most) s (Q b) (I l.length) (I put) (I kept) (I i) m = g6_1 (I most) s (Q b) (I l.length) (I put) (I kept) (I (i + 1 : Nat)) m' ∧ Cnt m0 m' b rb most l lost put kept (i + 1) := by
  obtain ⟨hB, hf, hb0, hrb0, heq, hk0, hkp, hpi, hlm⟩ := h
  obtain ⟨s1, m1, n, q1, q2, q3, q4⟩ := allS_is hB (by omega)
  obtain ⟨a, sz, cap, ex, rfl⟩ := q2.sl.len
  have hB1 := hB.frame q4 (by simp) (by simp)
  refine ⟨m1, ?_, hB1, hf.tr q4, hb0, hrb0, heq, hk0, hkp, hpi, hlm⟩
  rw [g6_3_eq]
  simp only [lenS_is hB, Option.bind_some, binA_neq, decide_true, Bool.not_true, ifV, q1, len49, binA_gtr, decide_eq_false (show ¬ most < (l.length : Int) by omega), lostS_is hB1, binA_sub]
  rw [wrap64 (by omega) (by omega), heq]
  simp only [decide_true, Bool.not_true, condA]
  rw [g6_4_eq]
  simp only [binA_add, Option.bind_some]
  rw [wrap64 (by omega) (by omega)]
  rfl

theorem count_loop (hs : St m0 s sl) (hm : most ≤ 256) : ∀ (d i : Nat) (m : Mem) (rb : Option Nat) (l : List AV) (lost put kept : Int), i + d = sl.length → i ≤ 1000 → Cnt m0 m b rb most l lost put kept i →
    ∃ m', g6_1 (I most) s (Q b) (I l.length) (I put) (I kept) (I i) m = some (.bool true, m') := by
  intro d
  induction d with
  | zero =>
    intro i m rb l lost put kept hi h8 h
    obtain ⟨a', sz, cap, ex, rfl⟩ := hs.len
    rw [g6_1_eq]
    simp only [len42, Option.bind_some, binA_lss, decide_eq_false (show ¬ (i : Int) < (sl.length : Int) by omega), ifV]
    rw [g6_5_eq]
    exact ⟨_, rfl⟩
  | succ d ih =>
    intro i m rb l lost put kept hi h8 h
    have hil : i < sl.length := by omega
    obtain ⟨a', sz, cap, ex, e⟩ := hs.len
    rw [g6_1_eq]
    rw [e]
    simp only [len42, Option.bind_some, binA_lss, decide_eq_true (show (i : Int) < (sl.length : Int) by omega), ifV]
    rw [← e]
    by_cases h9 : i = 1000
    · subst h9
      simp only [show ((1000 : Nat) : Int) = 1000 from rfl, decide_eq_false (show ¬ (1000 : Int) < 1000 by omega), condA]
      rw [g6_5_eq]
      exact ⟨_, rfl⟩
    · simp only [decide_eq_true (show (i : Int) < 1000 by omega), condA]
      obtain ⟨m1, rb1, l1, lost1, put1, kept1, r1, c1⟩ := count_step hs hil (by omega) h hm
      obtain ⟨m2, r2, c2⟩ := count_look (s := s) c1 hm (by omega)
      rw [r1, r2]
      exact ih (i + 1) m2 rb1 l1 lost1 put1 kept1 (by omega) (by omega) c2
end

theorem counts_is {m : Mem} {s : AV} {sl : List (Int × Int × Bool)} (hs : St m s sl) (most : Int) : ∃ m', run E 6 [.int .i64 most, s] m = some (.bool true, m') := by
  rw [f6_eq]
  have h0 : 0 ≤ most % 256 := Int.emod_nonneg _ (by omega)
  have h1 : most % 256 < 256 := Int.emod_lt_of_pos _ (by omega)
  simp only [pick_is m most (show (0 : Int) < 256 by omega) (by omega), Option.bind_some, binA_add]
  rw [wrap64 (by omega) (by omega)]
  obtain ⟨m1, q1, b1, f1⟩ := newS_ok (m := m) (most := 1 + most % 256) (by omega)
  obtain ⟨m2, q2, f2⟩ := known_is m1
  simp only [q1, q2, Option.bind_some, extractA, List.getElem?_cons_zero, List.getElem?_cons_succ, unA, Bool.not_true, ifV, binA_neq, decide_true, ptr_ne35, condA]
  rw [g6_0_eq]
  exact count_loop (most := 1 + most % 256) hs (by omega) sl.length 0 m2 none [] 0 0 0 (by omega) (by omega) ⟨b1.frame f2 (by simp) (by simp), f1.tr f2, Nat.le_refl _, fun c hc => (by cases hc), by omega, by omega, by omega, by omega, by simp; omega⟩
end Go.Proofs.Ytdmenbeiepfdiaa
