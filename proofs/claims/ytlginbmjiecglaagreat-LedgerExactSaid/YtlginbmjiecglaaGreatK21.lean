/- Texts of one claim, put together. -/
import Derived.Test.YtlginbmjiecglaaGreatK20
section
namespace Go.Proofs.YtlginbmjiecglaaGreat
set_option maxRecDepth 4000
open Go Go.Abs
theorem pick_is (m : Mem) (k : Int) {n : Int} (h0 : 0 < n) (h1 : n < 4611686018427387904) : run E18 (.fn 4) [.int .i64 k, .int .i64 n] m = some (.int .i64 (k % n), m) := by
  have e : k.tmod n = if 0 ≤ k then k % n else if k % n = 0 then 0 else k % n - n := by
    rw [Int.tmod_eq_emod]
    split
    · rename_i h
      rcases h with h | h
      · rw [if_pos h]; omega
      · by_cases h2 : 0 ≤ k
        · rw [if_pos h2]; omega
        · rw [if_neg h2, if_pos (Int.emod_eq_zero_of_dvd h), Int.emod_eq_zero_of_dvd h]; omega
    · rename_i h
      rw [if_neg (fun h2 => h (.inl h2))]
      have : ¬ k % n = 0 := fun h2 => h (.inr (Int.dvd_of_emod_eq_zero h2))
      rw [if_neg this]
      have := Int.natAbs_of_nonneg (show 0 ≤ n by omega)
      omega
  have p0 := Int.emod_nonneg k (show n ≠ 0 by omega)
  have p1 := Int.emod_lt_of_pos k h0
  simp only [aps, ips, f4_is (H := H18) rfl, T.f4, Option.bind_some, p2, bin_add, bin_lss, condA, bin_rem _ _ _ _ (show n ≠ 0 by omega)]
  by_cases hn : k.tmod n < 0
  · simp only [aps, ips, decide_eq_true hn, g4_0_is (H := H18), T.g4_0]
    have e2 : k.tmod n + n = k % n := by
      rw [e] at hn ⊢
      split at hn
      · omega
      · split at hn
        · omega
        · rename_i g1 g2; rw [if_neg g1, if_neg g2]; omega
    rw [e2, wrap_i64 (by omega) (by omega)]
  · simp only [aps, ips, decide_eq_false hn, g4_0_is (H := H18), T.g4_0]
    have e2 : k.tmod n = k % n := by
      rw [e] at hn ⊢
      split at hn
      · rename_i g1; rw [if_pos g1]
      · split at hn
        · rename_i g1 g2; rw [if_neg g1, if_pos g2, g2]
        · omega
    rw [e2]

theorem rmuldec18 {a b : Wd} (ha : a.ok) (hb : b.ok) {s t to : Int} (hs : 0 ≤ s ∧ s ≤ 18) (ht : 0 ≤ t ∧ t ≤ 18) (hto : 0 ≤ to ∧ to ≤ 18) (m : Mem) :
    Res m (run E18 (.fn 13) [.agg (decC a s), .agg (decC b t), .int .i64 to] m) (decRes (mulV a.val b.val (s + t - to)) to) := by
  have r1 := fun m => rright_at2 (H := H18) rfl a s m
  have r2 := fun m => rright_at2 (H := H18) rfl b t m
  rw [decide_eq_true hs] at r1
  rw [decide_eq_true ht] at r2
  have o1 := fun m => rof_at (H := H18) rfl ha m
  have o2 := fun m => rof_at (H := H18) rfl hb m
  have ti := fun m => rtimes_at (H := H18) rfl (wd_lt8 ha) (wd_lt hb) m
  have ro := fun m => rround_at (H := H18) rfl (wd_mul ha hb) (k := s + t - to) (by omega) (by omega) m
  have rd := fun m => rdec_at (H := H18) rfl (rnd_bound (wd_mul ha hb) (k := s + t - to) (by omega)) to m
  rw [rnd_mul] at ro rd
  have hk1 : IntKind.wrap .i64 (s + t) = s + t := wrap_i64 (by omega) (by omega)
  have hk2 : IntKind.wrap .i64 (s + t - to) = s + t - to := wrap_i64 (by omega) (by omega)
  obtain ⟨ah, al⟩ := a
  obtain ⟨bh, bl⟩ := b
  obtain ⟨N, hN⟩ : ∃ N, N = mulV (Wd.mk ah al).val (Wd.mk bh bl).val (s + t - to) := ⟨_, rfl⟩
  rw [← hN] at ro rd ⊢
  simp only [decC, Wd.cells] at r1 r2 o1 o2
  simp only [lms, lcs, aps, ips, decC, f13_is (H := H18) rfl, T.f13, D2_call, Option.bind_some, pB, q1, p1, p2, bin_gtr, bin_lss, fillA, AV.cells, Option.map_some, Nat.reduceAdd, Nat.reduceLeDiff, if_true, boxA, condA, ifV, unA, resA, nth0, nth1, tupA, ld37, bd37, AV.one, if_false, over, r1, r2, Bool.not_true, decide_eq_false (show ¬ to < 0 by omega), decide_eq_false (show ¬ (18 : Int) < to by omega)]
  unfold decRes at rd ⊢
  cases hf : fitsW N with
  | true =>
    simp only [hf, if_true, decC] at rd ⊢
    simp only [lms, lcs, ge, aps, ips, g13_0_is (H := H18), T.g13_0, D2_call, Option.bind_some, p1, q1, p2, bin_add, bin_sub, extractA, resA, nth0, nth1, tupA, fa37_0, fa37_1, ld35, ld3, ld37, Nat.reduceAdd, AV.one, if_true, if_false, over, AV.cells, Nat.reduceLeDiff, Option.map_some, o1, o2, ti, hk1, hk2, ro, rd]
    refine Res.eq ?_ rfl
    (repeat apply Fr.lays)
    exact Fr.refl _
  | false =>
    simp only [hf, Bool.false_eq_true, if_false, decC] at rd ⊢
    simp only [lms, lcs, ge, aps, ips, g13_0_is (H := H18), T.g13_0, D2_call, Option.bind_some, p1, q1, p2, bin_add, bin_sub, extractA, resA, nth0, nth1, tupA, fa37_0, fa37_1, ld35, ld3, ld37, Nat.reduceAdd, AV.one, if_true, if_false, over, AV.cells, Nat.reduceLeDiff, Option.map_some, o1, o2, ti, hk1, hk2, ro, rd]
    refine Res.eq ?_ rfl
    (repeat apply Fr.lays)
    exact Fr.refl _
theorem dlit_is {n : Int} (h1 : -9223372036854775808 ≤ n) (h2 : n < 9223372036854775808) (s : Int) (m : Mem) : Res m (run E18 (.fn 10) [.int .i64 n, .int .i64 s] m) (.agg (decC (Wd.of n) s)) := by
  have o := fun m => of_at (H := H18) rfl h1 h2 m
  simp only [Wd.cells] at o
  simp only [lms, lcs, ge, aps, ips, f10_is (H := H18) rfl, T.f10, D2_call, Option.bind_some, pB, p1, fillA, AV.cells, Option.map_some, Nat.reduceAdd, Nat.reduceLeDiff, if_true, resA, nth0, tupA, ld37, bd37, AV.one, over, o, decC]
  refine Res.eq ?_ rfl
  (repeat apply Fr.lays)
  exact Fr.refl _
theorem neg_is {a : Wd} (ha : a.ok) (m : Mem) : Res m (run E18 (.fn 17) [.agg a.cells] m) (.tup [.agg (Wd.res (-a.val)).1.cells, .int .i64 (Wd.res (-a.val)).2]) := by
  have su := fun m => sub_at (H := H18) rfl wd_ok0 ha m
  rw [show (Wd.mk 0 0).val - a.val = -a.val by unfold Wd.val; simp] at su
  simp only [Wd.cells] at su ⊢
  simp only [lms, lcs, ge, aps, ips, f17_is (H := H18) rfl, T.f17, D2_call, Option.bind_some, pB, p1, q1, fillA, AV.cells, Option.map_some, Nat.reduceAdd, Nat.reduceLeDiff, if_true, boxA, extractA, resA, nth0, nth1, tupA, ld35, bd35, AV.one, if_false, over, su]
  refine Res.eq ?_ rfl
  (repeat apply Fr.lays)
  exact Fr.refl _
theorem dec_eql (a b c d e f : Int) : binA Tryz.prog .eql 37 (.agg [.int .i64 a, .int .u64 b, .int .i64 c]) (.agg [.int .i64 d, .int .u64 e, .int .i64 f]) = some (.bool ((decide (a = d) && decide (b = e)) && decide (c = f))) := by
  have h : eqA Tryz.prog 50 37 (.agg [.int .i64 a, .int .u64 b, .int .i64 c]) (.agg [.int .i64 d, .int .u64 e, .int .i64 f]) = (match (match (a == d) with | true => (match (b == e) with | true => some true | false => some false) | false => some false) with | some true => (match (c == f) with | true => some true | false => some false) | some false => some false | none => none) := by kernel_rfl
  have h2 : binA Tryz.prog .eql 37 (.agg [.int .i64 a, .int .u64 b, .int .i64 c]) (.agg [.int .i64 d, .int .u64 e, .int .i64 f]) = (match eqA Tryz.prog 50 37 (.agg [.int .i64 a, .int .u64 b, .int .i64 c]) (.agg [.int .i64 d, .int .u64 e, .int .i64 f]) with | some b => some (.bool b) | none => none) := by kernel_rfl
  rw [h2, h, show (a == d) = decide (a = d) from rfl, show (b == e) = decide (b = e) from rfl, show (c == f) = decide (c = f) from rfl]
  cases decide (a = d) <;> cases decide (b = e) <;> cases decide (c = f) <;> rfl
def S19 : List FuncId := [10, 17, 13, 14, 15]
def R19 : List FuncId := [9, 11, 12, 16]
noncomputable def H19 : FuncId → Option (List AV → Mem → R) := hooksCR E18 S19 R19
noncomputable abbrev E19 : Env := T.EH H19
theorem E19_ok : EnvOk E19 := hooksCR_ok E18_ok S19 R19
noncomputable abbrev D19 : Do := T.Rl H19
section
variable {H : FuncId → Option (List AV → Mem → R)} {m : Mem} {b : Nat} {st : LSt} {F : List Nat}
theorem raw18 {f : FuncId} (h : H f = some (run E18 (.fn f))) (xs : List AV) (m : Mem) : run (T.EH H) (.fn f) xs m = run E18 (.fn f) xs m := run_hook h xs m
theorem dlit_at (h : H 10 = some (cleanH E18 10)) {n : Int} (h1 : -9223372036854775808 ≤ n) (h2 : n < 9223372036854775808) (s : Int) (m : Mem) : run (T.EH H) (.fn 10) [.int .i64 n, .int .i64 s] m = some (.agg (decC (Wd.of n) s), m) :=
  hook_at h (by simp [AV.flat, AV.lt, decC_flat]) fun m2 _ _ => dlit_is h1 h2 s m2
theorem neg_at (h : H 17 = some (cleanH E18 17)) {a : Wd} (ha : a.ok) (m : Mem) : run (T.EH H) (.fn 17) [.agg a.cells] m = some (.tup [.agg (Wd.res (-a.val)).1.cells, .int .i64 (Wd.res (-a.val)).2], m) :=
  hook_at h (by simp [AV.flat, AV.lt, AV.lts, Wd.cells]) fun m2 _ _ => neg_is ha m2
theorem rmuldec_at (h : H 13 = some (cleanH E18 13)) {a b : Wd} (ha : a.ok) (hb : b.ok) {s t to : Int} (hs : 0 ≤ s ∧ s ≤ 18) (ht : 0 ≤ t ∧ t ≤ 18) (hto : 0 ≤ to ∧ to ≤ 18) (m : Mem) :
    run (T.EH H) (.fn 13) [.agg (decC a s), .agg (decC b t), .int .i64 to] m = some (decRes (mulV a.val b.val (s + t - to)) to, m) :=
  hook_at h (decRes_flat _ _) fun m2 _ _ => rmuldec18 ha hb hs ht hto m2
theorem bal_at (hh : H 14 = some (cleanH E18 14)) (h : LedgerAt m b st F) (w : LWf st) (id : Int) (M : Mem) (hM : Fr m M []) :
    run (T.EH H) (.fn 14) [.ptr (some ⟨b, 0⟩), .int .u64 id] M = some (.tup [.agg (decC (balanceF st id).1 (balanceF st id).2.1), .int .i64 (balanceF st id).2.2], M) :=
  hook_at hh (by simp [AV.flat, AV.lt, AV.lts, decC]) fun m2 h1 h2 => balance_is ((h.frame0 hM).frame0 (Fr.same h1 h2)) w id
theorem betw_at (hh : H 15 = some (cleanH E18 15)) (h : LedgerAt m b st F) (w : LWf st) (x y : List UInt8) (hxy : x.length + y.length ≤ 4611686018427387904) (M : Mem) (hM : Fr m M []) :
    run (T.EH H) (.fn 15) [.ptr (some ⟨b, 0⟩), .str x, .str y] M = some (.tup [.agg (decC (betweenF st x y).1 (betweenF st x y).2.1), .int .i64 (betweenF st x y).2.2], M) :=
  hook_at hh (by simp [AV.flat, AV.lt, AV.lts, decC]) fun m2 h1 h2 => between_is ((h.frame0 hM).frame0 (Fr.same h1 h2)) w x y hxy
end
end Go.Proofs.YtlginbmjiecglaaGreat
end
section
namespace Go.Proofs.YtlginbmjiecglaaGreat
set_option maxRecDepth 4000
open Go Go.Abs
def nmA : List UInt8 := [65, 65, 65]
def nmB : List UInt8 := [66, 66, 66]
def xSt (sx sy : Int) (o b1 b2 : Wd) (qs : List PairV) : LSt := ⟨[⟨nmA, sx, o⟩, ⟨nmB, sy, ⟨0, 0⟩⟩], qs, [⟨1, nmA, b1⟩, ⟨2, nmB, b2⟩], 2, 2⟩
theorem srt2 : Srt strLess [nmA, nmB] := by unfold Srt; decide
theorem srt1 : Srt intLess [1, 2] := by unfold Srt; decide
section
variable {sx sy : Int} {o b1 b2 : Wd} {qs : List PairV}
theorem xnames : (xSt sx sy o b1 b2 qs).purses.map (·.name) = [nmA, nmB] := rfl
theorem xids : (xSt sx sy o b1 b2 qs).accs.map (·.id) = [1, 2] := rfl
theorem xkeys (r : Wd) (s : Int) (i u : Wd) : (xSt sx sy o b1 b2 [⟨nmA, nmB, r, s, i, u⟩]).pairs.map (·.key) = [nmA ++ nmB] := rfl
theorem xgetA : (xSt sx sy o b1 b2 qs).getP nmA = some ⟨nmA, sx, o⟩ := by
  unfold LSt.getP
  rw [xnames, if_pos (show hasK strLess nmA [nmA, nmB] = true by decide)]
  rfl
theorem xgetB : (xSt sx sy o b1 b2 qs).getP nmB = some ⟨nmB, sy, ⟨0, 0⟩⟩ := by
  unfold LSt.getP
  rw [xnames, if_pos (show hasK strLess nmB [nmA, nmB] = true by decide)]
  rfl
theorem xget1 : (xSt sx sy o b1 b2 qs).getA 1 = some ⟨1, nmA, b1⟩ := by
  unfold LSt.getA
  rw [xids, if_pos (show hasK intLess 1 [1, 2] = true by decide)]
  rfl
theorem xget2 : (xSt sx sy o b1 b2 qs).getA 2 = some ⟨2, nmB, b2⟩ := by
  unfold LSt.getA
  rw [xids, if_pos (show hasK intLess 2 [1, 2] = true by decide)]
  rfl
theorem xof1 : (xSt sx sy o b1 b2 qs).of 1 = (⟨1, nmA, b1⟩, ⟨nmA, sx, o⟩, 0) := by unfold LSt.of; rw [xget1]; simp only [xgetA]; rfl
theorem xof2 : (xSt sx sy o b1 b2 qs).of 2 = (⟨2, nmB, b2⟩, ⟨nmB, sy, ⟨0, 0⟩⟩, 0) := by unfold LSt.of; rw [xget2]; simp only [xgetB]; rfl
theorem xsetP (p : PurseV) (h : p.name = nmA) : (xSt sx sy o b1 b2 qs).setP p = ⟨[p, ⟨nmB, sy, ⟨0, 0⟩⟩], qs, [⟨1, nmA, b1⟩, ⟨2, nmB, b2⟩], 2, 2⟩ := by
  unfold LSt.setP LSt.iP
  rw [h, show lb strLess nmA ((xSt sx sy o b1 b2 qs).purses.map (·.name)) = 0 from (show lb strLess nmA [nmA, nmB] = 0 by decide)]
  rfl
theorem xset1 (x : Wd) : (xSt sx sy o b1 b2 qs).setA ⟨1, nmA, x⟩ = xSt sx sy o x b2 qs := by
  unfold LSt.setA LSt.iA
  rw [show lb intLess 1 ((xSt sx sy o b1 b2 qs).accs.map (·.id)) = 0 from (show lb intLess 1 [1, 2] = 0 by decide)]
  rfl
theorem xset2 (x : Wd) : (xSt sx sy o b1 b2 qs).setA ⟨2, nmB, x⟩ = xSt sx sy o b1 x qs := by
  unfold LSt.setA LSt.iA
  rw [show lb intLess 2 ((xSt sx sy o b1 b2 qs).accs.map (·.id)) = 1 from (show lb intLess 2 [1, 2] = 1 by decide)]
  rfl
theorem xgetQ0 : (xSt sx sy o b1 b2 []).getQ (nmA ++ nmB) = none := LSt.getQ_none rfl
theorem xgetQ1 (r : Wd) (s : Int) (i u : Wd) : (xSt sx sy o b1 b2 [⟨nmA, nmB, r, s, i, u⟩]).getQ (nmA ++ nmB) = some ⟨nmA, nmB, r, s, i, u⟩ := by
  unfold LSt.getQ
  rw [xkeys, if_pos (show hasK strLess (nmA ++ nmB) [nmA ++ nmB] = true by decide)]
  rfl
theorem xputQ0 (r : Wd) (s : Int) (i u : Wd) : (xSt sx sy o b1 b2 []).putQ ⟨nmA, nmB, r, s, i, u⟩ = xSt sx sy o b1 b2 [⟨nmA, nmB, r, s, i, u⟩] := rfl
theorem xputQ1 (q : PairV) (h : q.key = nmA ++ nmB) (r : Wd) (s : Int) (i u : Wd) : (xSt sx sy o b1 b2 [⟨nmA, nmB, r, s, i, u⟩]).putQ q = xSt sx sy o b1 b2 [q] := by
  unfold LSt.putQ LSt.iQ
  rw [h, xkeys, if_pos (show hasK strLess (nmA ++ nmB) [nmA ++ nmB] = true by decide)]
  rfl
theorem xwf (hx : 0 ≤ sx ∧ sx ≤ 18) (hy : 0 ≤ sy ∧ sy ≤ 18) (ho : o.ok) (h1 : b1.ok) (h2 : b2.ok) (hq : qs = [] ∨ ∃ r s i u, qs = [⟨nmA, nmB, r, s, i, u⟩] ∧ r.ok ∧ rightR r s = true ∧ i.ok ∧ u.ok) : LWf (xSt sx sy o b1 b2 qs) where
  sp := srt2
  lp := by simp [xSt]
  sq := by rcases hq with rfl | ⟨r, s, i, u, rfl, _⟩ <;> simp [xSt, Srt]
  lq := by rcases hq with rfl | ⟨r, s, i, u, rfl, _⟩ <;> simp [xSt]
  sa := srt1
  la := by simp [xSt]
  okp := by
    intro p hp
    simp only [xSt, List.mem_cons, List.not_mem_nil, or_false] at hp
    rcases hp with rfl | rfl
    · exact ⟨hx.1, hx.2, ho, by show nameB nmA = true; decide⟩
    · exact ⟨hy.1, hy.2, wd_ok0, by show nameB nmB = true; decide⟩
  okq := by
    intro q hq'
    rcases hq with rfl | ⟨r, s, i, u, rfl, g1, g2, g3, g4⟩
    · simp [xSt] at hq'
    · simp only [xSt, List.mem_cons, List.not_mem_nil, or_false] at hq'
      subst hq'
      exact ⟨g1, g2, g3, g4, by rw [xgetA]; rfl, by rw [xgetB]; rfl⟩
  oka := by
    intro a ha
    simp only [xSt, List.mem_cons, List.not_mem_nil, or_false] at ha
    rcases ha with rfl | rfl
    · exact ⟨h1, by show (0 : Int) ≤ 1; decide, by show (1 : Int) ≤ 2; decide, by rw [xgetA]; rfl⟩
    · exact ⟨h2, by show (0 : Int) ≤ 2; decide, by show (2 : Int) ≤ 2; decide, by rw [xgetB]; rfl⟩
  lat := by show (0 : Int) ≤ 2 ∧ (2 : Int) ≤ 72057594037927935; decide
theorem xcoin1 (h : sx ≤ 18) : coinF ⟨[], [], [], 0, 2⟩ nmA sx = (0, ⟨[⟨nmA, sx, ⟨0, 0⟩⟩], [], [], 0, 2⟩) := by
  unfold coinF
  rw [if_neg (by decide), if_neg (by omega)]
  rfl
theorem xcoin2 (h : sy ≤ 18) : coinF ⟨[⟨nmA, sx, ⟨0, 0⟩⟩], [], [], 0, 2⟩ nmB sy = (0, ⟨[⟨nmA, sx, ⟨0, 0⟩⟩, ⟨nmB, sy, ⟨0, 0⟩⟩], [], [], 0, 2⟩) := by
  unfold coinF
  rw [show List.map (fun x : PurseV => x.name) (LSt.purses ⟨[⟨nmA, sx, ⟨0, 0⟩⟩], [], [], 0, 2⟩) = [nmA] from rfl]
  rw [if_neg (by decide), if_neg (by omega), if_neg (show ¬ hasK strLess nmB [nmA] = true by decide), if_neg (by simp), show lb strLess nmB [nmA] = 1 by decide]
  rfl
theorem xopen1 : openF ⟨[⟨nmA, sx, ⟨0, 0⟩⟩, ⟨nmB, sy, ⟨0, 0⟩⟩], [], [], 0, 2⟩ nmA = (1, 0, (⟨[⟨nmA, sx, ⟨0, 0⟩⟩, ⟨nmB, sy, ⟨0, 0⟩⟩], [], [⟨1, nmA, ⟨0, 0⟩⟩], 1, 2⟩ : LSt)) := by
  unfold openF
  rw [show List.map (fun x : PurseV => x.name) (LSt.purses ⟨[⟨nmA, sx, ⟨0, 0⟩⟩, ⟨nmB, sy, ⟨0, 0⟩⟩], [], [], 0, 2⟩) = [nmA, nmB] from rfl]
  rw [if_neg (show ¬ hasK strLess nmA [nmA, nmB] = false by decide), if_neg (by simp)]
  rfl
theorem xopen2 : openF ⟨[⟨nmA, sx, ⟨0, 0⟩⟩, ⟨nmB, sy, ⟨0, 0⟩⟩], [], [⟨1, nmA, ⟨0, 0⟩⟩], 1, 2⟩ nmB = (2, 0, xSt sx sy ⟨0, 0⟩ ⟨0, 0⟩ ⟨0, 0⟩ []) := by
  unfold openF
  rw [show List.map (fun x : PurseV => x.name) (LSt.purses ⟨[⟨nmA, sx, ⟨0, 0⟩⟩, ⟨nmB, sy, ⟨0, 0⟩⟩], [], [⟨1, nmA, ⟨0, 0⟩⟩], 1, 2⟩) = [nmA, nmB] from rfl]
  rw [if_neg (show ¬ hasK strLess nmB [nmA, nmB] = false by decide), if_neg (by simp)]
  rfl
theorem xdeposit {n : Int} (h0 : 0 < n) (h1 : n < 9223372036854775808) : depositF (xSt sx sy ⟨0, 0⟩ ⟨0, 0⟩ ⟨0, 0⟩ []) 1 (Wd.of n) sx = (0, xSt sx sy (Wd.of (-n)) (Wd.of n) ⟨0, 0⟩ []) := by
  unfold depositF
  rw [xof1]
  have e0 : (Wd.mk 0 0).val = 0 := rfl
  have ef : fitsE ⟨nmA, sx, ⟨0, 0⟩⟩ (Wd.of n) sx = 0 := by unfold fitsE; rw [if_neg (by simp), Wd.of_val, if_neg (by omega)]
  have e2 : fits2 ⟨0, 0⟩ ⟨0, 0⟩ (Wd.of n) = true := by
    unfold fits2; rw [e0, Wd.of_val, fits_true (by omega) (by omega), fits_true (by omega) (by omega)]; rfl
  simp only [ef, e2, ne_eq, not_true_eq_false, if_false, if_true, e0, Wd.of_val, Int.zero_sub, Int.zero_add]
  rw [xset1, xsetP _ rfl]
  rfl
theorem xrate {r : Int} {s : Int} (hs : 0 ≤ s ∧ s ≤ 18) (hr : 0 < r) : rateF (xSt sx sy o b1 b2 []) nmA nmB (Wd.of r) s = (0, xSt sx sy o b1 b2 [⟨nmA, nmB, Wd.of r, s, ⟨0, 0⟩, ⟨0, 0⟩⟩]) := by
  unfold rateF
  rw [xgetA, xgetB, xgetQ0]
  have e : rateCode (Wd.of r) s = 0 := by unfold rateCode; rw [if_pos hs, Wd.of_val, if_pos hr]
  rw [if_neg (by simp), if_neg (by decide), if_neg (by rw [e]; simp)]
  exact congrArg _ (xputQ0 _ _ _ _)
theorem xconvert {a n r N s : Int} (ha : 0 < a) (ha2 : a < 4294967296) (hn : 0 ≤ n) (hn2 : n < 4294967296) (hr : 0 < r) (hs : 0 ≤ s ∧ s ≤ 18) (hx : 0 ≤ sx ∧ sx ≤ 18) (hy : 0 ≤ sy ∧ sy ≤ 18) (hN : N = mulV a r (sx + s - sy)) (hN1 : -1000000000000000000000000000000 < N) (hN2 : N < 1000000000000000000000000000000) :
    convertF (xSt sx sy o (Wd.of (a + n)) ⟨0, 0⟩ [⟨nmA, nmB, Wd.of r, s, ⟨0, 0⟩, ⟨0, 0⟩⟩]) 1 2 (Wd.of a) sx = (Wd.of N, sy, 0, xSt sx sy o (Wd.of n) (Wd.of N) [⟨nmA, nmB, Wd.of r, s, Wd.of a, Wd.of (-N)⟩]) := by
  have e0 : (Wd.mk 0 0).val = 0 := rfl
  unfold convertF
  rw [xof1, xof2]
  simp only [ne_eq, not_true_eq_false, if_false, xgetQ1]
  rw [if_neg (by decide)]
  unfold convT
  have ef : fitsE ⟨nmA, sx, o⟩ (Wd.of a) sx = 0 := by unfold fitsE; rw [if_neg (by simp), Wd.of_val, if_neg (by omega)]
  have er : rateE (Wd.of r) s = 0 := by unfold rateE; rw [if_pos hs, Wd.of_val, if_pos hr]
  have fN : fitsW N = true := fits_true (by omega) (by omega)
  have ec : crossD (Wd.of a) sx (Wd.of r) s sy = (Wd.of N, sy, 0) := by
    unfold crossD
    rw [if_pos ⟨hx, hy⟩, Wd.of_val, if_pos ha, if_pos er, Wd.of_val, ← hN, if_pos fN]
  have p1 : fits2 (Wd.of (a + n)) ⟨0, 0⟩ (Wd.of a) = true := by
    unfold fits2; rw [e0, Wd.of_val, Wd.of_val, fits_true (by omega) (by omega), fits_true (by omega) (by omega)]; rfl
  have p2 : fits2 ⟨0, 0⟩ ⟨0, 0⟩ (Wd.of N) = true := by
    unfold fits2; rw [e0, Wd.of_val, fits_true (by omega) (by omega), fits_true (by omega) (by omega)]; rfl
  simp only [ef, ec, p1, p2, ne_eq, not_true_eq_false, if_false, e0, Wd.of_val, Int.zero_add, Int.zero_sub, Bool.true_eq_false, or_self]
  rw [if_neg (by omega), show a + n - a = n by omega, xset1, xset2, xputQ1 _ rfl]
theorem mulV_small {a r k : Int} (ha : 0 < a) (ha2 : a ≤ 1000000) (hr : 0 < r) (hr2 : r ≤ 4294967296) (hk : -6 ≤ k) : -1000000000000000000000000000000 < mulV a r k ∧ mulV a r k < 1000000000000000000000000000000 := by
  have h0 : 0 ≤ a * r := Int.mul_nonneg (by omega) (by omega)
  have h1 : a * r ≤ 1000000 * 4294967296 := Int.mul_le_mul ha2 hr2 (by omega) (by omega)
  unfold mulV
  split
  · unfold scF
    have e1 : absI a = a := if_neg (by omega)
    have e2 : absI r = r := if_neg (by omega)
    rw [e1, e2]
    have g1 := rhe_nn h0 k.toNat
    have g2 := rhe_le h0 k.toNat
    split <;> omega
  · have t0 := tenP_pos (-k).toNat
    have t1 : tenP (-k).toNat ≤ 1000000 := by
      have : (-k).toNat ≤ 6 := by omega
      have h3 := tenP_add (-k).toNat (6 - (-k).toNat)
      rw [show (-k).toNat + (6 - (-k).toNat) = 6 by omega, show tenP 6 = 1000000 from rfl] at h3
      have h4 := tenP_pos (6 - (-k).toNat)
      have h5 : tenP (-k).toNat * 1 ≤ tenP (-k).toNat * tenP (6 - (-k).toNat) := Int.mul_le_mul_of_nonneg_left (by omega) (by omega)
      omega
    have h6 : a * r * tenP (-k).toNat ≤ 1000000 * 4294967296 * 1000000 := Int.mul_le_mul h1 t1 (by omega) (by omega)
    have h7 : 0 ≤ a * r * tenP (-k).toNat := Int.mul_nonneg h0 (by omega)
    omega
end
end Go.Proofs.YtlginbmjiecglaaGreat
end
section
namespace Go.Proofs.YtlginbmjiecglaaGreat
set_option maxRecDepth 8000
open Go Go.Abs
theorem pick_at (m : Mem) (k : Int) {n : Int} (h0 : 0 < n) (h1 : n < 4611686018427387904) : run E19 (.fn 4) [.int .i64 k, .int .i64 n] m = some (.int .i64 (k % n), m) := by
  have e : k.tmod n = if 0 ≤ k then k % n else if k % n = 0 then 0 else k % n - n := by
    rw [Int.tmod_eq_emod]
    split
    · rename_i h
      rcases h with h | h
      · rw [if_pos h]; omega
      · by_cases h2 : 0 ≤ k
        · rw [if_pos h2]; omega
        · rw [if_neg h2, if_pos (Int.emod_eq_zero_of_dvd h), Int.emod_eq_zero_of_dvd h]; omega
    · rename_i h
      rw [if_neg (fun h2 => h (.inl h2))]
      have : ¬ k % n = 0 := fun h2 => h (.inr (Int.dvd_of_emod_eq_zero h2))
      rw [if_neg this]
      have := Int.natAbs_of_nonneg (show 0 ≤ n by omega)
      omega
  have p0 := Int.emod_nonneg k (show n ≠ 0 by omega)
  have p1 := Int.emod_lt_of_pos k h0
  simp only [aps, ips, f4_is (H := H19) rfl, T.f4, Option.bind_some, p2, bin_add, bin_lss, condA, bin_rem _ _ _ _ (show n ≠ 0 by omega)]
  by_cases hn : k.tmod n < 0
  · simp only [aps, ips, decide_eq_true hn, g4_0_is (H := H19), T.g4_0]
    have e2 : k.tmod n + n = k % n := by
      rw [e] at hn ⊢
      split at hn
      · omega
      · split at hn
        · omega
        · rename_i g1 g2; rw [if_neg g1, if_neg g2]; omega
    rw [e2, wrap_i64 (by omega) (by omega)]
  · simp only [aps, ips, decide_eq_false hn, g4_0_is (H := H19), T.g4_0]
    have e2 : k.tmod n = k % n := by
      rw [e] at hn ⊢
      split at hn
      · rename_i g1; rw [if_pos g1]
      · split at hn
        · rename_i g1 g2; rw [if_neg g1, if_pos g2, g2]
        · omega
    rw [e2]
section
variable {sx sy : Int} {o b1 b2 : Wd} {qs : List PairV}
theorem xbal1 : balanceF (xSt sx sy o b1 b2 qs) 1 = (b1, sx, 0) := by unfold balanceF; rw [xof1]; rfl
theorem xbal2 : balanceF (xSt sx sy o b1 b2 qs) 2 = (b2, sy, 0) := by unfold balanceF; rw [xof2]; rfl
theorem xbetw (r : Wd) (s : Int) (i u : Wd) : betweenF (xSt sx sy o b1 b2 [⟨nmA, nmB, r, s, i, u⟩]) nmA nmB = (i, sx, 0) := by
  unfold betweenF; rw [xgetA, xgetB, xgetQ1]; rfl
end
theorem of_ok2 {n : Int} (h1 : -1000000000000000000000000000000 < n) (h2 : n < 1000000000000000000000000000000) : (Wd.of n).ok := Wd.of_ok (fits_true (by omega) (by omega))
theorem exact_end {m : Mem} {b : Nat} {F : List Nat} {n a r sx sy sr r0 : Int} (hn : 0 ≤ n ∧ n < 4294967296) (ha : 0 < a ∧ a ≤ 1000000) (hr0 : 0 ≤ r0 ∧ r0 < 4294967296) (hr : r = r0 + 1) (hx : 0 ≤ sx ∧ sx < 7) (hy : 0 ≤ sy ∧ sy < 7) (hs : 0 ≤ sr ∧ sr < 9)
    (h : LedgerAt m b (xSt sx sy (Wd.of (-(a + n))) (Wd.of (a + n)) ⟨0, 0⟩ [⟨nmA, nmB, Wd.of r, sr, ⟨0, 0⟩, ⟨0, 0⟩⟩]) F) :
    ∃ m', D19.gor 12289 [.int .u32 n, .int .u32 r0, .int .i64 sx, .int .i64 sy, .int .i64 sr, .ptr (some ⟨b, 0⟩), .int .i64 a] m = some (.bool true, m') := by
  obtain ⟨N, hN⟩ : ∃ N, N = mulV a r (sx + sr - sy) := ⟨_, rfl⟩
  obtain ⟨hN1, hN2⟩ := mulV_small (a := a) (r := r) (k := sx + sr - sy) ha.1 ha.2 (by omega) (by omega) (by omega)
  rw [← hN] at hN1 hN2
  have rr : rightR (Wd.of r) sr = true := by unfold rightR; rw [Wd.of_val]; exact decide_eq_true (by omega)
  have w6 : LWf (xSt sx sy (Wd.of (-(a + n))) (Wd.of (a + n)) ⟨0, 0⟩ [⟨nmA, nmB, Wd.of r, sr, ⟨0, 0⟩, ⟨0, 0⟩⟩]) :=
    xwf (by omega) (by omega) (of_ok2 (by omega) (by omega)) (of_ok2 (by omega) (by omega)) wd_ok0 (.inr ⟨_, _, _, _, rfl, of_ok2 (by omega) (by omega), rr, wd_ok0, wd_ok0⟩)
  have oka : (Wd.of a).ok := of_ok2 (by omega) (by omega)
  have okr : (Wd.of r).ok := of_ok2 (by omega) (by omega)
  obtain ⟨m7, F7, g1, g2, g3, g4⟩ := convert_is h w6 1 2 oka sx
  rw [xconvert ha.1 (by omega) hn.1 hn.2 (by omega) (by omega) (by omega) (by omega) hN hN1 hN2] at g1 g2
  have g1' := (raw18 (H := H19) (f := 12) rfl _ _).trans g1
  have w7 : LWf (xSt sx sy (Wd.of (-(a + n))) (Wd.of n) (Wd.of N) [⟨nmA, nmB, Wd.of r, sr, Wd.of a, Wd.of (-N)⟩]) :=
    xwf (by omega) (by omega) (of_ok2 (by omega) (by omega)) (of_ok2 (by omega) (by omega)) (of_ok2 hN1 hN2) (.inr ⟨_, _, _, _, rfl, okr, rr, oka, of_ok2 (by omega) (by omega)⟩)
  have da := fun m => dlit_at (H := H19) rfl (n := a) (by omega) (by omega) sx m
  have dr := fun m => dlit_at (H := H19) rfl (n := r) (by omega) (by omega) sr m
  have dn := fun m => dlit_at (H := H19) rfl (n := n) (by omega) (by omega) sx m
  have mu := fun m => rmuldec_at (H := H19) rfl oka okr (s := sx) (t := sr) (to := sy) (by omega) (by omega) (by omega) m
  rw [Wd.of_val, Wd.of_val, ← hN] at mu
  have fN : fitsW N = true := fits_true (by omega) (by omega)
  unfold decRes at mu
  rw [if_pos fN, if_pos fN] at mu
  have ba := bal_at (H := H19) rfl g2 w7 1
  have bb := bal_at (H := H19) rfl g2 w7 2
  have bt := betw_at (H := H19) rfl g2 w7 nmA nmB (by decide)
  rw [xbal1] at ba
  rw [xbal2] at bb
  rw [xbetw] at bt
  obtain ⟨M5, hM5⟩ : ∃ M5, M5 = ((((m7.lay (.cells (decC (Wd.of N) sy) false)).lay (.cells (decC (Wd.of N) sy) false)).lay (.cells (decC (Wd.of n) sx) false)).lay (.cells (decC (Wd.of N) sy) false)).lay (.cells (decC (Wd.of a) sx) false) := ⟨_, rfl⟩
  have f5 : Fr m7 M5 [] := by rw [hM5]; (repeat apply Fr.lays); exact Fr.refl _
  obtain ⟨sp, sq, sa, m9, r1, r2, r3, k1, kp, k3, ka, k5, _⟩ := book_is (g2.frame0 f5) w7
  have k1' := (raw18 (H := H19) (f := 16) rfl _ _).trans k1
  have n5 : M5.next = m7.next + 1 + 1 + 1 + 1 + 1 := by rw [hM5]; rfl
  have n9 := k5.next
  have q0 : m9.get m7.next = some (.cells (decC (Wd.of N) sy) false) := k5.get (by rw [hM5]; simp only [Mem.get_lay, Mem.next_lay, nn1, nn2, nn3, nn4, if_true, if_false]) (by simp)
  have q1 : m9.get (m7.next + 1) = some (.cells (decC (Wd.of N) sy) false) := k5.get (by rw [hM5]; simp [Mem.get_lay]) (by simp)
  have q2 : m9.get (m7.next + 1 + 1) = some (.cells (decC (Wd.of n) sx) false) := k5.get (by rw [hM5]; simp [Mem.get_lay]) (by simp)
  have q3 : m9.get (m7.next + 1 + 1 + 1) = some (.cells (decC (Wd.of N) sy) false) := k5.get (by rw [hM5]; simp [Mem.get_lay]) (by simp)
  have q4 : m9.get (m7.next + 1 + 1 + 1 + 1) = some (.cells (decC (Wd.of a) sx) false) := k5.get (by rw [hM5]; simp [Mem.get_lay]) (by simp)
  have l0 := ld_all (n := 3) q0 rfl
  have l1 := ld_all (n := 3) q1 rfl
  have l2 := ld_all (n := 3) q2 rfl
  have l3 := ld_all (n := 3) q3 rfl
  have l4 := ld_all (n := 3) q4 rfl
  have lw : ldN m9 (.ptr (some ⟨m7.next + 1, 0⟩)) 2 = some (.agg (Wd.of N).cells) := by rw [ldN_at q1 (by simp [decC])]; rfl
  obtain ⟨bk, _, e1, e2, e3, _⟩ := k3.at (i := 0) (by simp [xSt])
  have lbk := Mem.get_lt e2
  have lu : ldN m9 (.ptr (some ⟨bk, 7⟩)) 2 = some (.agg (Wd.of (-N)).cells) := by rw [ldN_at e2 (by simp [xSt, PairV.cells])]; rfl
  have ln : (List.map (fun x : PairV => x.cells) (xSt sx sy (Wd.of (-(a + n))) (Wd.of n) (Wd.of N) [⟨nmA, nmB, Wd.of r, sr, Wd.of a, Wd.of (-N)⟩]).pairs).length = 1 := rfl
  rw [ln] at e1 e3
  subst e1
  have ng := fun m => neg_at (H := H19) rfl (of_ok2 hN1 hN2) m
  rw [Wd.of_val, res_fits (fits_true (by omega) (by omega))] at ng
  have wr : IntKind.wrap .i64 (IntKind.wrap .i64 r0 + 1) = r := by rw [wrap_i64 (n := r0) (by omega) (by omega), wrap_i64 (by omega) (by omega)]; omega
  have wn : IntKind.wrap .i64 n = n := wrap_i64 (by omega) (by omega)
  have c0 : m7.next < m9.next := by omega
  have c1 : m7.next + 1 < m9.next := by omega
  have c2 : m7.next + 1 + 1 < m9.next := by omega
  have c3 : m7.next + 1 + 1 + 1 < m9.next := by omega
  have c4 : m7.next + 1 + 1 + 1 + 1 < m9.next := by omega
  have one4 : [AV.sl none 0 0 0 true].all AV.one = true := rfl
  have i0 : ixA 9 1 ⟨bk, 0⟩ 0 = some (.ptr (some ⟨bk, 0⟩)) := by simp [ixA]
  rw [hM5] at k1'
  obtain ⟨u1, u2, u3, u4, rfl⟩ := kp.len
  obtain ⟨v1, v2, v3, v4, rfl⟩ := ka.len
  have oneb : True := trivial
  simp only [decC, Wd.cells, nmA, nmB] at g1' da dr dn mu ba bb bt k1' l0 l1 l2 l3 l4 lw lu ng
  have d1 : decide (((1 : Nat) : Int) = 1) = true := by decide
  have lat : (xSt sx sy (Wd.of (-(a + n))) (Wd.of n) (Wd.of N) [⟨nmA, nmB, Wd.of r, sr, Wd.of a, Wd.of (-N)⟩]).latest = 2 := rfl
  simp only [nmA, nmB] at lat
  rw [lat] at k1'
  simp (maxDischargeDepth := 20) only [lms, lcs, ge, aps, ips, g3_1_is (H := H19), T.g3_1, D2_call, Option.bind_some, p1, pB, p2, bin_add, bin_eql, extractA, ifV, fa37_0, fa49_1, fa54_4, ld35, ld37, ld46, len46, ix46, cv22_2, Nat.reduceAdd, AV.one, if_true, if_false, over, AV.cells, Nat.reduceLeDiff, Option.map_some, g1', da, dr, dn, mu, ba, bb, bt, frl, Fr.refl, wr, wn, k1', ng, bnx0 c0, bnx1 c0, bnx0 c1, bnx1 c1, bnx0 c2, bnx1 c2, bnx0 c3, bnx1 c3, bnx0 c4, bnx1 c4, bnx0 lbk, bnx1 lbk, l0, l1, l2, l3, l4, lw, lu, dec_eql, wide_eql, decide_true, i0, true_or, d1]
  exact ⟨_, rfl⟩
theorem exact_is (m : Mem) {n A r0 : Int} (sx sy sr : Int) (hn : 0 ≤ n ∧ n < 4294967296) (hA : 0 ≤ A ∧ A < 4294967296) (hr0 : 0 ≤ r0 ∧ r0 < 4294967296) :
    ∃ m', run E19 (.fn 3) [.int .u32 n, .int .u32 A, .int .u32 r0, .int .i64 sx, .int .i64 sy, .int .i64 sr] m = some (.bool true, m') := by
  have pk1 := fun m => pick_at m sx (n := 7) (by omega) (by omega)
  have pk2 := fun m => pick_at m sy (n := 7) (by omega) (by omega)
  have pk3 := fun m => pick_at m sr (n := 9) (by omega) (by omega)
  obtain ⟨x, hx⟩ : ∃ x, x = sx % 7 := ⟨_, rfl⟩
  obtain ⟨y, hy⟩ : ∃ y, y = sy % 7 := ⟨_, rfl⟩
  obtain ⟨s, hs⟩ : ∃ s, s = sr % 9 := ⟨_, rfl⟩
  have bx : 0 ≤ x ∧ x < 7 := by omega
  have bY : 0 ≤ y ∧ y < 7 := by omega
  have bs : 0 ≤ s ∧ s < 9 := by omega
  rw [← hx] at pk1
  rw [← hy] at pk2
  rw [← hs] at pk3
  clear hx hy hs
  obtain ⟨a, ha⟩ : ∃ a, a = A % 1000000 + 1 := ⟨_, rfl⟩
  have ba : 0 < a ∧ a ≤ 1000000 := by omega
  obtain ⟨b, m1, F1, n1, n2, _⟩ := new_is m (most := 2) (by omega) (by omega)
  have n1' := (raw_at (H := H19) (f := 5) rfl _ _).trans n1
  obtain ⟨m2, F2, c1, c2, _⟩ := coin_is n2 (by simp [Srt]) (by simp) nmA (by decide) (scale := x) bx.1
  rw [xcoin1 (by omega)] at c1 c2
  have c1' := (raw_at (H := H19) (f := 7) rfl _ _).trans c1
  obtain ⟨m3, F3, d1, d2, _⟩ := coin_is c2 (by simp [Srt]) (by simp) nmB (by decide) (scale := y) bY.1
  rw [xcoin2 (by omega)] at d1 d2
  have d1' := (raw_at (H := H19) (f := 7) rfl _ _).trans d1
  obtain ⟨m4, F4, e1, e2, _⟩ := open_is d2 srt2 (by simp) (by simp [Srt]) (by simp) (by simp) (by simp) nmA
  rw [xopen1] at e1 e2
  have e1' := (raw_at (H := H19) (f := 8) rfl _ _).trans e1
  obtain ⟨m5, F5, f1, f2, _⟩ := open_is e2 srt2 (by simp) (by simp [Srt]) (by simp) (by simp) (by simp) nmB
  rw [xopen2] at f1 f2
  have f1' := (raw_at (H := H19) (f := 8) rfl _ _).trans f1
  have w5 : LWf (xSt x y ⟨0, 0⟩ ⟨0, 0⟩ ⟨0, 0⟩ []) := xwf (by omega) (by omega) wd_ok0 wd_ok0 wd_ok0 (.inl rfl)
  obtain ⟨m6, F6, g1, g2, _⟩ := deposit_is f2 w5 1 (of_ok2 (n := a + n) (by omega) (by omega)) x
  rw [xdeposit (by omega) (by omega)] at g1 g2
  have g1' := (raw18 (H := H19) (f := 9) rfl _ _).trans g1
  have w6 : LWf (xSt x y (Wd.of (-(a + n))) (Wd.of (a + n)) ⟨0, 0⟩ []) := xwf (by omega) (by omega) (of_ok2 (by omega) (by omega)) (of_ok2 (by omega) (by omega)) wd_ok0 (.inl rfl)
  obtain ⟨m7, F7, i1, i2, _⟩ := rate_is g2 w6 nmA nmB (of_ok2 (n := r0 + 1) (by omega) (by omega)) s
  rw [xrate (by omega) (by omega)] at i1 i2
  have i1' := (raw18 (H := H19) (f := 11) rfl _ _).trans i1
  obtain ⟨m8, j1⟩ := exact_end hn ba hr0 rfl bx bY bs i2
  have da := fun m => dlit_at (H := H19) rfl (n := a + n) (by omega) (by omega) x m
  have dr := fun m => dlit_at (H := H19) rfl (n := r0 + 1) (by omega) (by omega) s m
  have z6 : (1000000 : Int) ≠ 0 := by omega
  have wA : IntKind.wrap .i64 (IntKind.wrap .i64 (A.tmod 1000000) + 1) = a := by
    rw [Int.tmod_eq_emod_of_nonneg hA.1, wrap_i64 (n := A % 1000000) (by omega) (by omega), wrap_i64 (by omega) (by omega), ha]
  have wn : IntKind.wrap .i64 n = n := wrap_i64 (by omega) (by omega)
  have wan : IntKind.wrap .i64 (a + n) = a + n := wrap_i64 (by omega) (by omega)
  have wr : IntKind.wrap .i64 (IntKind.wrap .i64 r0 + 1) = r0 + 1 := by rw [wrap_i64 (n := r0) (by omega) (by omega), wrap_i64 (by omega) (by omega)]
  have wx : IntKind.wrap .u64 x = x := wrap_u64 (by omega) (by omega)
  have wy : IntKind.wrap .u64 y = y := wrap_u64 (by omega) (by omega)
  have kn := fun m => known_at (H := H19) rfl m
  refine ⟨m8, ?_⟩
  simp only [nmA, nmB, decC] at c1' d1' e1' f1' g1' i1' da dr
  simp only [ge, aps, ips, f3_is (H := H19) rfl, T.f3, D2_call, Option.bind_some, p1, p2, bin_neq, extractA, condA, ifV, unA, be24, pk1, pk2, pk3, n1', kn, Bool.not_true, decide_true]
  simp only [aps, ips, g3_0_is (H := H19), T.g3_0, D2_call, Option.bind_some, p1, p2, bin_add, bin_neq, condA, ifV, cv3_30, cv22_2, wx, wy, c1', d1', e1', f1', bin_rem _ _ _ _ z6, wA, wn, wan, wr, da, dr, g1', i1', decide_true, Bool.not_true]
  exact j1
end Go.Proofs.YtlginbmjiecglaaGreat
end
