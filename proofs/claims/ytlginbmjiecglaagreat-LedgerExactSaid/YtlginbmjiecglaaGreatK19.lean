/- Texts of one claim, put together. -/
import Derived.Test.YtlginbmjiecglaaGreatK18
section
namespace Go.Proofs.YtlginbmjiecglaaGreat
set_option maxRecDepth 8000
open Go Go.Abs
section
variable {M : Mem} {n b : Nat} {st : LSt} {F : List Nat}
theorem conv_tail (h : LedgerAt M b st F) (w : LWf st) (hF : ∀ c, c ∈ F → c < n) {a a' : AccV} {p p' : PurseV} {q : PairV} (ma : a ∈ st.accs) (mp : p ∈ st.purses) (ma' : a' ∈ st.accs) (mp' : p' ∈ st.purses) (mq : q ∈ st.pairs)
    (ha : hasK intLess a.id (st.accs.map (·.id)) = true) (ha' : hasK intLess a'.id (st.accs.map (·.id)) = true) {x : Wd} (hx : x.ok) (s : Int)
    (hA : M.get n = some (.cells (decC x s) false)) (h8 : M.get (n + 1) = some (.cells z3 false)) (hX : M.get (n + 1 + 1) = some (.cells a.cells false)) (hP : M.get (n + 1 + 1 + 1) = some (.cells p.cells false)) (hY : M.get (n + 1 + 1 + 1 + 1) = some (.cells a'.cells false)) (hR : M.get (n + 1 + 1 + 1 + 1 + 1) = some (.cells p'.cells false)) (hQ : M.get (n + 1 + 1 + 1 + 1 + 1 + 1) = some (.cells q.cells false)) :
    ∃ m' F', D18.gor 49152 [.ptr (some ⟨b, 0⟩), .ptr (some ⟨n, 0⟩), .ptr (some ⟨n + 1, 0⟩), .ptr (some ⟨n + 1 + 1, 0⟩), .ptr (some ⟨n + 1 + 1 + 1, 0⟩), .ptr (some ⟨n + 1 + 1 + 1 + 1, 0⟩), .ptr (some ⟨n + 1 + 1 + 1 + 1 + 1, 0⟩), .ptr (some ⟨n + 1 + 1 + 1 + 1 + 1 + 1, 0⟩)] M =
        some (.tup [.agg (decC (convT st a p a' p' q x s).1 (convT st a p a' p' q x s).2.1), .int .i64 (convT st a p a' p' q x s).2.2.1], m') ∧
      LedgerAt m' b (convT st a p a' p' q x s).2.2.2 F' ∧ Fr M m' ((n + 1) :: (n + 1 + 1) :: (n + 1 + 1 + 1 + 1) :: (n + 1 + 1 + 1 + 1 + 1 + 1) :: F) ∧ ∀ c, c ∈ F' → c ∈ F ∨ M.next ≤ c := by
  have lQ := Mem.get_lt hQ
  have nF : ∀ k, n ≤ k → k ∉ F := fun k hk hc => by have := hF k hc; omega
  have done : ∀ (M1 M2 : Mem) (v w : AV), v = w → Fr M M1 [] → Fr M1 M2 [n + 1] → ∃ m' F', some (v, M2) = some (w, m') ∧ LedgerAt m' b st F' ∧ Fr M m' ((n + 1) :: (n + 1 + 1) :: (n + 1 + 1 + 1 + 1) :: (n + 1 + 1 + 1 + 1 + 1 + 1) :: F) ∧ ∀ c, c ∈ F' → c ∈ F ∨ M.next ≤ c := by
    intro M1 M2 v w hv h1 h2
    subst hv
    refine ⟨M2, F, rfl, (h.frame0 h1).frame h2 (fun c hc hm => ?_), (h1.any _).step h2 (fun c hc => ?_), fun c hc => .inl hc⟩
    · simp only [List.mem_singleton] at hm; subst hm; exact nF _ (by omega) hc
    · simp only [List.mem_singleton] at hc; subst hc; exact .inl (by simp)
  have dA : ldN M (.ptr (some ⟨n, 0⟩)) 3 = some (.agg (decC x s)) := ld_all hA rfl
  have dX : ldN M (.ptr (some ⟨n + 1 + 1, 0⟩)) 4 = some (.agg a.cells) := ld_all hX rfl
  have dP : ldN M (.ptr (some ⟨n + 1 + 1 + 1, 0⟩)) 4 = some (.agg p.cells) := ld_all hP rfl
  have ft := fun m => fits_at (H := H18) rfl p hx s m
  have po := fun m => poor_at (H := H18) rfl a (w.oka a ma).1 hx s m
  unfold convT
  obtain ⟨fe, hfe⟩ : ∃ fe, fe = fitsE p x s := ⟨_, rfl⟩
  rw [← hfe] at ft ⊢
  by_cases f0 : fe = 0
  · subst f0
    rw [if_neg (by simp)]
    by_cases hp : a.bal.val < x.val
    · rw [if_pos hp]
      rw [decide_eq_true hp] at po
      obtain ⟨M', g1, g2⟩ := conv_err1 (M := M) (e := 42) (by omega) h8 (.ptr (some ⟨b, 0⟩)) (.ptr (some ⟨n, 0⟩)) (.ptr (some ⟨n + 1 + 1, 0⟩)) (.ptr (some ⟨n + 1 + 1 + 1 + 1, 0⟩)) (.ptr (some ⟨n + 1 + 1 + 1 + 1 + 1, 0⟩)) (.ptr (some ⟨n + 1 + 1 + 1 + 1 + 1 + 1, 0⟩))
      simp only [aps, ips, g12_0_is (H := H18), T.g12_0, D2_call, Option.bind_some, q1, p2, bin_eql, condA, ifV, ld64, ld37, ld70, dA, dP, ft, dX, po, decide_true, g1]
      exact done M M' _ _ rfl (Fr.refl M) g2
    · rw [if_neg hp]
      rw [decide_eq_false hp] at po
      have cr := fun m => cross_at (H := H18) rfl hx (w.okq q mq).1 s q.rscale p'.scale m
      rw [crossR_eq] at cr
      have gok := crossD_ok x s q.rate q.rscale p'.scale
      obtain ⟨g, hg⟩ : ∃ g, g = crossD x s q.rate q.rscale p'.scale := ⟨_, rfl⟩
      rw [← hg] at cr gok ⊢
      obtain ⟨gw, gs, gc⟩ := g
      simp only at gok cr ⊢
      obtain ⟨M1, hM1⟩ : ∃ M1, M1 = M.lay (.cells z3 false) := ⟨_, rfl⟩
      obtain ⟨M2, hM2⟩ : ∃ M2, M2 = M.lay (.cells (decC gw gs) false) := ⟨_, rfl⟩
      have f1 : Fr M M1 [] := by rw [hM1]; exact (Fr.refl M).lay _
      have f2 : Fr M M2 [] := by rw [hM2]; exact (Fr.refl M).lay _
      have dA1 : ldN M1 (.ptr (some ⟨n, 0⟩)) 3 = some (.agg (decC x s)) := ld_all (f1.get hA (by simp)) rfl
      have bR1 : ∀ i : Nat, ld1 M1 (.ptr (some ⟨n + 1 + 1 + 1 + 1 + 1, i⟩)) = p'.cells[i]? := fun i => ld1_at (f1.get hR (by simp))
      have dQ1 : ldN M1 (.ptr (some ⟨n + 1 + 1 + 1 + 1 + 1 + 1, 2⟩)) 3 = some (.agg (decC q.rate q.rscale)) := by rw [ldN_at (f1.get hQ (by simp)) (by simp)]; rfl
      have s1 : stV M1 (.ptr (some ⟨M.next, 0⟩)) (.agg (decC gw gs)) 3 = some M2 := by
        rw [hM1, hM2, st_all (n := 3) (v := decC gw gs) (lay_self M _) rfl rfl rfl, put_lay]
      have h82 := f2.get h8 (by simp)
      have step1 : D18.gor 49152 [.ptr (some ⟨b, 0⟩), .ptr (some ⟨n, 0⟩), .ptr (some ⟨n + 1, 0⟩), .ptr (some ⟨n + 1 + 1, 0⟩), .ptr (some ⟨n + 1 + 1 + 1, 0⟩), .ptr (some ⟨n + 1 + 1 + 1 + 1, 0⟩), .ptr (some ⟨n + 1 + 1 + 1 + 1 + 1, 0⟩), .ptr (some ⟨n + 1 + 1 + 1 + 1 + 1 + 1, 0⟩)] M =
          D18.gor 49154 [.ptr (some ⟨b, 0⟩), .ptr (some ⟨n, 0⟩), .ptr (some ⟨n + 1, 0⟩), .ptr (some ⟨n + 1 + 1, 0⟩), .int .i64 gc, .ptr (some ⟨n + 1 + 1 + 1 + 1, 0⟩), .ptr (some ⟨n + 1 + 1 + 1 + 1 + 1 + 1, 0⟩), .ptr (some ⟨M.next, 0⟩)] M2 := by
        simp only [aps, ips, g12_0_is (H := H18), T.g12_0, D2_call, Option.bind_some, q1, p2, bin_eql, condA, ifV, ld64, ld37, ld70, dA, dP, ft, dX, po, decide_true]
        simp only [z3] at hM1
        simp only [PurseV.cells] at bR1
        simp only [ge, aps, ips, g12_1_is (H := H18), T.g12_1, D2_call, Option.bind_some, pB, p2, q1, p1, bin_eql, extractA, condA, fa54_2, fa64_1, ld37, ld3, Nat.zero_add, decide_true, ← hM1, dA1, dQ1, bR1, cr, s1]
      rw [step1]
      by_cases g0 : gc = 0
      · subst g0
        rw [if_neg (by simp)]
        have hA2 := f2.get hA (by simp)
        have hX2 := f2.get hX (by simp)
        have hY2 := f2.get hY (by simp)
        have hQ2 := f2.get hQ (by simp)
        have hG2 : M2.get M.next = some (.cells (decC gw gs) false) := by rw [hM2]; exact lay_self _ _
        have dA2 : ldN M2 (.ptr (some ⟨n, 0⟩)) 2 = some (.agg x.cells) := by rw [ldN_at hA2 (by simp [decC])]; rfl
        obtain ⟨mv1, mv2⟩ := moves_is hX2 hQ2 (by omega) (w.oka a ma).1 (w.okq q mq).2.2.1 hx (o1 := 2) (o2 := 5) (by simp) (by simp) rfl rfl
        cases e1 : fits2 a.bal q.inx x with
        | false =>
          rw [if_pos (.inl rfl)]
          obtain ⟨M3, g1, g2⟩ := mv1 e1
          obtain ⟨M', j1, j2⟩ := conv_err4 (M := M3) (e := 20) (by omega) (g2.get h82 (by simp)) (.ptr (some ⟨b, 0⟩)) (.ptr (some ⟨n + 1 + 1, 0⟩)) (.ptr (some ⟨n + 1 + 1 + 1 + 1, 0⟩)) (.ptr (some ⟨n + 1 + 1 + 1 + 1 + 1 + 1, 0⟩)) (.ptr (some ⟨M.next, 0⟩))
          simp only [aps, ips, g12_2_is (H := H18), T.g12_2, D2_call, Option.bind_some, p2, p1, q1, bin_eql, condA, fa70_2, fa54_3, fa37_0, ld35, Nat.zero_add, Nat.add_zero, decide_true, dA2, g1, g12_3_is (H := H18), T.g12_3, fa54_4, decide_eq_false (show ¬ (20 : Int) = 0 by omega), j1]
          exact done M3 M' _ _ rfl (f2.step0 g2) j2
        | true =>
          obtain ⟨M3, g1, g2, g3, g4⟩ := mv2 e1
          have hG3 := g4.get hG2 (by simp only [List.mem_cons, List.not_mem_nil, or_false, not_or]; omega)
          have h83 := g4.get h82 (by simp only [List.mem_cons, List.not_mem_nil, or_false, not_or]; omega)
          have hY3 := g4.get hY2 (by simp only [List.mem_cons, List.not_mem_nil, or_false, not_or]; omega)
          have dG3 : ldN M3 (.ptr (some ⟨M.next, 0⟩)) 2 = some (.agg gw.cells) := by rw [ldN_at hG3 (by simp [decC])]; rfl
          have f3 : Fr M M3 [n + 1 + 1, n + 1 + 1 + 1 + 1 + 1 + 1] := (f2.any _).step g4 (fun c hc => .inl hc)
          obtain ⟨mv3, mv4⟩ := moves_is g3 hY3 (by omega) (w.okq q mq).2.2.2.1 (w.oka a' ma').1 gok (o1 := 7) (o2 := 2) (by simp [Wd.cells]) (by simp) rfl rfl
          have f13 : Fr M M3 ((n + 1) :: (n + 1 + 1) :: (n + 1 + 1 + 1 + 1) :: (n + 1 + 1 + 1 + 1 + 1 + 1) :: F) := f3.mono (by simp +contextual)
          have hL3 : LedgerAt M3 b st F := h.frame f3 (fun c hc hm => by
            have := hF c hc
            simp only [List.mem_cons, List.not_mem_nil, or_false] at hm
            omega)
          cases e2 : fits2 q.outy a'.bal gw with
          | false =>
            rw [if_pos (.inr rfl)]
            obtain ⟨M4, k1, k2⟩ := mv3 e2
            obtain ⟨M', j1, j2⟩ := conv_err4 (M := M4) (e := 20) (by omega) (k2.get h83 (by simp)) (.ptr (some ⟨b, 0⟩)) (.ptr (some ⟨n + 1 + 1, 0⟩)) (.ptr (some ⟨n + 1 + 1 + 1 + 1, 0⟩)) (.ptr (some ⟨n + 1 + 1 + 1 + 1 + 1 + 1, 0⟩)) (.ptr (some ⟨M.next, 0⟩))
            simp only [aps, ips, g12_2_is (H := H18), T.g12_2, D2_call, Option.bind_some, p2, p1, q1, bin_eql, condA, fa70_2, fa54_3, fa37_0, ld35, Nat.zero_add, Nat.add_zero, decide_true, dA2, g1, g12_3_is (H := H18), T.g12_3, fa54_4, dG3, k1, j1]
            refine ⟨M', F, rfl, (hL3.frame0 k2).frame j2 (fun c hc hm => ?_), (f13.step0 k2).step j2 (fun c hc => ?_), fun c hc => .inl hc⟩
            · simp only [List.mem_singleton] at hm; subst hm; exact nF _ (by omega) hc
            · simp only [List.mem_singleton] at hc; subst hc; exact .inl (by simp)
          | true =>
            rw [if_neg (by simp)]
            obtain ⟨M4, k1, k2, k3, k4⟩ := mv4 e2
            have f4 : Fr M M4 ((n + 1) :: (n + 1 + 1) :: (n + 1 + 1 + 1 + 1) :: (n + 1 + 1 + 1 + 1 + 1 + 1) :: F) := f13.step k4 (fun c hc => .inl (by
              simp only [List.mem_cons, List.not_mem_nil, or_false] at hc
              rcases hc with rfl | rfl <;> simp))
            have hL4 : LedgerAt M4 b st F := hL3.frame k4 (fun c hc hm => by
              have := hF c hc
              simp only [List.mem_cons, List.not_mem_nil, or_false] at hm
              omega)
            have n4 : M.next ≤ M4.next := f4.next
            obtain ⟨m', F', t1, t2, t3, t4⟩ := conv_put (g := M.next) hL4 w hF (a := { a with bal := Wd.of (a.bal.val - x.val) }) (a' := { a' with bal := Wd.of (a'.bal.val + gw.val) }) (q := { q with inx := Wd.of (q.inx.val + x.val), outy := Wd.of (q.outy.val - gw.val) })
              ha ha' (w.okq q mq).2.2.2.2 (k4.get h83 (by simp only [List.mem_cons, List.not_mem_nil, or_false, not_or]; omega)) (k4.get g2 (by simp only [List.mem_cons, List.not_mem_nil, or_false, not_or]; omega)) k3 k2 (k4.get hG3 (by simp only [List.mem_cons, List.not_mem_nil, or_false, not_or]; omega)) lQ
            simp only [lcs, aps, ips, g12_2_is (H := H18), T.g12_2, D2_call, Option.bind_some, p2, p1, q1, bin_eql, condA, fa70_2, fa54_3, fa37_0, ld35, decide_true, dA2, g1, g12_3_is (H := H18), T.g12_3, fa54_4, dG3, k1, g12_4_is (H := H18), T.g12_4, bin_neq, fillA, Option.map_some, resA, nth0, nth1, tupA, ld37, bd37, Bool.not_true, t1]
            refine ⟨m', F', rfl, t2, f4.step t3 (fun c hc => .inl ?_), fun c hc => (t4 c hc).imp (fun h => h) (fun h => Nat.le_trans n4 h)⟩
            simp only [List.mem_cons] at hc ⊢
            rcases hc with rfl | hc
            · exact .inl rfl
            · exact .inr (.inr (.inr (.inr hc)))
      · rw [if_pos g0]
        obtain ⟨M', j1, j2⟩ := conv_err2 (M := M2) g0 h82 (.ptr (some ⟨b, 0⟩)) (.ptr (some ⟨n, 0⟩)) (.ptr (some ⟨n + 1 + 1, 0⟩)) (.ptr (some ⟨n + 1 + 1 + 1 + 1, 0⟩)) (.ptr (some ⟨n + 1 + 1 + 1 + 1 + 1 + 1, 0⟩)) (.ptr (some ⟨M.next, 0⟩))
        rw [j1]
        exact done M2 M' _ _ rfl f2 j2
  · rw [if_pos f0]
    obtain ⟨M', g1, g2⟩ := conv_err1 (M := M) f0 h8 (.ptr (some ⟨b, 0⟩)) (.ptr (some ⟨n, 0⟩)) (.ptr (some ⟨n + 1 + 1, 0⟩)) (.ptr (some ⟨n + 1 + 1 + 1 + 1, 0⟩)) (.ptr (some ⟨n + 1 + 1 + 1 + 1 + 1, 0⟩)) (.ptr (some ⟨n + 1 + 1 + 1 + 1 + 1 + 1, 0⟩))
    simp only [aps, ips, g12_0_is (H := H18), T.g12_0, D2_call, Option.bind_some, q1, p2, bin_eql, condA, ifV, ld64, ld37, ld70, dA, dP, ft, decide_eq_false f0, g1]
    exact done M M' _ _ rfl (Fr.refl M) g2
end
section
variable {m : Mem} {b : Nat} {st : LSt} {F : List Nat}
theorem convert_is (h : LedgerAt m b st F) (w : LWf st) (i j : Int) {x : Wd} (hx : x.ok) (s : Int) :
    ∃ m' F', run E18 (.fn 12) [.ptr (some ⟨b, 0⟩), .int .u64 i, .int .u64 j, .agg (decC x s)] m = some (.tup [.agg (decC (convertF st i j x s).1 (convertF st i j x s).2.1), .int .i64 (convertF st i j x s).2.2.1], m') ∧
      LedgerAt m' b (convertF st i j x s).2.2.2 F' ∧ Fr m m' F ∧ ∀ c, c ∈ F' → c ∈ F ∨ m.next ≤ c := by
  obtain ⟨tp, tq, ta, FP, FQ, FA, h1, h2, h3, h4, h5, h6, h7, h8, h9, h10, e⟩ := h.ex
  have hb := Mem.get_lt h1
  have hlt := h.lt
  have a3 : ∀ i : Nat, ld1 m (.ptr (some ⟨b, i⟩)) = [.int .i64 st.most, .ptr (some ⟨tp, 0⟩), .ptr (some ⟨tq, 0⟩), .ptr (some ⟨ta, 0⟩), .int .u64 st.latest][i]? := fun i => ld1_at h1
  have om := of_at2 (H := H18) rfl h w i
  have on := of_at2 (H := H18) rfl h w j
  have len : ∀ id, (st.of id).2.1.name.length ≤ 3 := by
    intro id
    rcases LSt.of_cases w id with ⟨e, _⟩ | ⟨a, p, e, _, _, _, _, _, _, _, mp⟩
    · rw [e]; exact Nat.zero_le _
    · rw [e]; exact Nat.le_of_eq (nameB_len (w.okp p mp).2.2.2)
  have gq := getq_at (H := H18) rfl w h3 ((st.of i).2.1.name ++ (st.of j).2.1.name)
  have sa := bin_sadd (P := Tryz.prog) 9 (st.of i).2.1.name (st.of j).2.1.name (by have := len i; have := len j; omega)
  have done : ∀ M, Fr m M [] → ∀ v w : AV, v = w → ∃ m' F', some (v, M) = some (w, m') ∧ LedgerAt m' b st F' ∧ Fr m m' F ∧ ∀ c, c ∈ F' → c ∈ F ∨ m.next ≤ c := fun M hM v w hv => ⟨M, F, by rw [hv], h.frame0 hM, hM.any F, fun c hc => .inl hc⟩
  have ci := LSt.of_cases w i
  have cj := LSt.of_cases w j
  obtain ⟨o, ho⟩ : ∃ o, o = st.of i := ⟨_, rfl⟩
  obtain ⟨o', ho'⟩ : ∃ o', o' = st.of j := ⟨_, rfl⟩
  rw [← ho] at om gq sa ci
  rw [← ho'] at on gq sa cj
  clear len
  obtain ⟨a, p, e⟩ := o
  obtain ⟨a', p', e'⟩ := o'
  simp only at om on gq sa
  obtain ⟨qo, hqo⟩ : ∃ qo, qo = st.getQ (p.name ++ p'.name) := ⟨_, rfl⟩
  rw [← hqo] at gq
  obtain ⟨qv, hqv⟩ : ∃ qv, qv = qo.getD nilQ := ⟨_, rfl⟩
  obtain ⟨qb, hqb⟩ : ∃ qb, qb = qo.isSome := ⟨_, rfl⟩
  rw [← hqv, ← hqb] at gq
  obtain ⟨M, hM⟩ : ∃ M, M = ((((((m.lay (.cells (decC x s) false)).lay (.cells z3 false)).lay (.cells a.cells false)).lay (.cells p.cells false)).lay (.cells a'.cells false)).lay (.cells p'.cells false)).lay (.cells qv.cells false) := ⟨_, rfl⟩
  have fM : Fr m M [] := by rw [hM]; (repeat apply Fr.lays); exact Fr.refl _
  have m0 : M.get m.next = some (.cells (decC x s) false) := by rw [hM]; simp only [Mem.get_lay, Mem.next_lay, nn1, nn2, nn3, nn4, nn5, nn6, if_true, if_false]
  have m1 : M.get (m.next + 1) = some (.cells (z3) false) := by rw [hM]; simp [Mem.get_lay]
  have m2 : M.get (m.next + 1 + 1) = some (.cells (a.cells) false) := by rw [hM]; simp [Mem.get_lay]
  have m3 : M.get (m.next + 1 + 1 + 1) = some (.cells (p.cells) false) := by rw [hM]; simp [Mem.get_lay]
  have m4 : M.get (m.next + 1 + 1 + 1 + 1) = some (.cells (a'.cells) false) := by rw [hM]; simp [Mem.get_lay]
  have m5 : M.get (m.next + 1 + 1 + 1 + 1 + 1) = some (.cells (p'.cells) false) := by rw [hM]; simp [Mem.get_lay]
  have m6 : M.get (m.next + 1 + 1 + 1 + 1 + 1 + 1) = some (.cells (qv.cells) false) := by rw [hM]; simp [Mem.get_lay]
  have s8 := st_all (n := 3) (v := z3) m1 rfl rfl rfl
  have l8 : ldN (M.put (m.next + 1) (some (.cells z3 false))) (.ptr (some ⟨m.next + 1, 0⟩)) 3 = some (.agg z3) := ld_all (put_self m1) rfl
  have bP : ∀ i : Nat, ld1 M (.ptr (some ⟨m.next + 1 + 1 + 1, i⟩)) = p.cells[i]? := fun i => ld1_at m3
  have bR : ∀ i : Nat, ld1 M (.ptr (some ⟨m.next + 1 + 1 + 1 + 1 + 1, i⟩)) = p'.cells[i]? := fun i => ld1_at m5
  have fE : Fr m (M.put (m.next + 1) (some (.cells z3 false))) [] := fM.put' (.inr (by omega))
  simp only [decC, z3, AccV.cells, PurseV.cells, PairV.cells] at om on gq sa hM s8 l8 bP bR fE ⊢
  simp (maxDischargeDepth := 20) only [lms, lcs, ge, aps, ips, f12_is (H := H18) rfl, T.f12, D2_call, Option.bind_some, pB, p1, q1, p2, bin_neq, fillA, AV.cells, Option.map_some, Nat.reduceAdd, Nat.reduceLeDiff, if_true, boxA, nnA, extractA, condA, unA, resA, nth0, nth1, tupA, fa60_2, fa64_0, ld57, ld9, ld37, bd37, AV.one, if_false, over, bnx0 hb, bnx1 hb, bnx2 hb, bnx3 hb, bnx4 hb, bnx5 hb, a3, om, on, sa, gq, frl, Fr.refl, ← hM]
  unfold convertF
  rw [← ho, ← ho']
  simp only
  rcases ci with ⟨ci, _⟩ | ⟨a0, p0, ci, ga, gp, hid, hka, hpn, hkp, ma, mp⟩
  · obtain ⟨rfl, rfl, rfl⟩ : a = nilA ∧ p = nilP ∧ e = 40 := by simpa using ci
    simp only [ne_eq, show ¬ (40 : Int) = 0 by omega, not_false_eq_true, if_true, s8, l8, Option.bind_some, decide_false, Bool.not_false]
    exact done _ fE _ _ rfl
  · obtain ⟨rfl, rfl, rfl⟩ : a = a0 ∧ p = p0 ∧ e = 0 := by simpa using ci
    simp only [decide_true, Bool.not_true, ne_eq, not_true_eq_false, if_false]
    rcases cj with ⟨cj, _⟩ | ⟨a1, p1, cj, ga', gp', hid', hka', hpn', hkp', ma', mp'⟩
    · obtain ⟨rfl, rfl, rfl⟩ : a' = nilA ∧ p' = nilP ∧ e' = 40 := by simpa using cj
      simp only [show ¬ (40 : Int) = 0 by omega, not_false_eq_true, if_true, s8, l8, Option.bind_some, decide_false, Bool.not_false]
      exact done _ fE _ _ rfl
    · obtain ⟨rfl, rfl, rfl⟩ : a' = a1 ∧ p' = p1 ∧ e' = 0 := by simpa using cj
      simp only [decide_true, Bool.not_true, not_true_eq_false, if_false]
      by_cases hn : p.name = p'.name
      · rw [if_pos hn]
        simp only [ge, s8, l8, bP, bR, bin_seql, Option.bind_some, decide_eq_true hn]
        exact done _ fE _ _ rfl
      · rw [if_neg hn, ← hqo]
        simp only [ge, bP, bR, bin_seql, Option.bind_some, decide_eq_false hn]
        cases qo with
        | none =>
          simp only [hqb, Option.isSome_none, s8, l8, Option.bind_some, Bool.not_false]
          exact done _ fE _ _ rfl
        | some q =>
          have hkq : hasK strLess (p.name ++ p'.name) (st.pairs.map (·.key)) = true := by
            cases hk : hasK strLess (p.name ++ p'.name) (st.pairs.map (·.key)) with
            | true => rfl
            | false => rw [LSt.getQ_none hk] at hqo; cases hqo
          obtain ⟨q', q1, q2, q3, q4⟩ := LSt.getQ_some hkq
          rw [← hqo] at q1
          cases q1
          simp only [hqb, Option.isSome_some, Bool.not_true]
          have hqv' : qv = q := by rw [hqv]; rfl
          subst hqv'
          obtain ⟨m', F', t1, t2, t3, t4⟩ := conv_tail (h.frame0 fM) w hlt ma mp ma' mp' q4 (by rw [hid]; exact hka) (by rw [hid']; exact hka') hx s
            m0 m1 m2 m3 m4 m5 m6
          rw [t1]
          refine ⟨m', F', rfl, t2, (fM.any F).step t3 (fun c hc => ?_), fun c hc => (t4 c hc).imp (fun h => h) (fun h => Nat.le_trans fM.next h)⟩
          simp only [List.mem_cons] at hc
          rcases hc with rfl | rfl | rfl | rfl | hc
          · exact .inr (by omega)
          · exact .inr (by omega)
          · exact .inr (by omega)
          · exact .inr (by omega)
          · exact .inl hc
end
end Go.Proofs.YtlginbmjiecglaaGreat
end
