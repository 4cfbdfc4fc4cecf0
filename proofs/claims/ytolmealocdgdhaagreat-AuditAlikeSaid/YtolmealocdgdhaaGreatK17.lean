/- Texts of one claim, put together. -/
import Derived.Test.YtolmealocdgdhaaGreatK16
section
namespace Go.Proofs.YtolmealocdgdhaaGreat
open Go Go.Abs
set_option maxRecDepth 20000
set_option maxHeartbeats 400000
theorem h41_4 : H41 4 = none := hfree41 4 (by decide) (by decide)
theorem chk_same {d : Do} {m : Mem} (v : AV) (K : CM) : interp d (.chk (some v) v K) m = interp d K m := if_pos rfl
theorem clone_vrow {n w : Nat} {M : Mem} {x : AV} {l : List (List AV)} (h : VRow n M x l) (hb : l.length * w ≤ maxBytes) :
    ∃ s' m' rb, appendA n w (.sl (some ⟨M.next, 0⟩) n 0 0 true) x (M.lay (.cells [] false)) = some (s', m') ∧ TRow n m' s' l (some rb) ∧ M.next ≤ rb ∧ Fr M m' [] := by
  have f1 : Fr M (M.lay (.cells [] false)) [] := (Fr.refl M).lay _
  have hsrc := VRow.src (h.frame0 f1)
  have hones := h.ones
  have hlen := flat_len h.lens
  unfold appendA
  rw [hsrc]
  simp only [hones, not_true_eq_false, if_false, true_or, if_true, Nat.zero_add]
  by_cases h0 : l.length = 0
  · have : l = [] := List.length_eq_zero_iff.1 h0
    subst this
    refine ⟨.sl (some ⟨M.next, 0⟩) n 0 0 true, (M.lay (.cells [] false)).put M.next (some (.cells [] false)), M.next, ?_, TRow.lit n (put_self (lay_self _ _)), Nat.le_refl _, f1.put' (by simp)⟩
    simp [stCells, lay_self]
  · rw [if_neg (by omega), if_pos hb]
    simp only [Nat.zero_mul, ldCells, lay_self, List.length_nil, Nat.zero_add, Nat.le_refl, if_true, List.drop_nil, List.take_nil, List.nil_append]
    exact ⟨_, _, M.next + 1, rfl, ⟨h.1, .inr ⟨M.next + 1, rfl, rfl, lay_self (M.lay (.cells [] false)) _⟩⟩, Nat.le_succ _, f1.lay _⟩
theorem stV_one {m : Mem} {p v : AV} (h : v.one = true) : stV m p v 1 = stV m p (.agg [v]) 1 := by
  have h2 : (AV.agg [v]).cells = some [v] := agg_cells (by simp only [List.all_cons, List.all_nil, h, Bool.and_true])
  cases p <;> simp only [stV, cells1 h, h2]
theorem VOk.of {x : List AV} {u : Bool} {r t : Int} (h1 : x.length = 22) (h2 : x.all AV.one = true) (h0 : x[0]? = some (.bool u)) (hr : x[2]? = some (.int .i64 r)) (ht : x[4]? = some (.int .u64 t)) : VOk x := by
  have e0 : vup x = u := by unfold vup; rw [h0]
  have e2 : vrole x = r := by unfold vrole; rw [hr]
  have e4 : vterm x = t := by unfold vterm; rw [ht]
  exact ⟨h1, h2, by rw [e0]; exact h0, by rw [e2]; exact hr, by rw [e4]; exact ht⟩
theorem VOk.put {x : List AV} (h : VOk x) (r t : Int) : VOk ((x.set 2 (.int .i64 r)).set 4 (.int .u64 t)) := by
  have hl := h.len
  refine VOk.of (u := vup x) (r := r) (t := t) (by simp [hl]) ?_ ?_ ?_ ?_
  · rw [List.all_eq_true]
    intro v hv
    rcases List.mem_or_eq_of_mem_set hv with hv | rfl
    · rcases List.mem_or_eq_of_mem_set hv with hv | rfl
      · exact List.all_eq_true.1 h.one v hv
      · rfl
    · rfl
  · simp [h.c0]
  · simp [hl]
  · simp [hl]
theorem set_app (x : List AV) (o : Nat) (v : AV) (h : o < x.length) : x.take o ++ [v] ++ x.drop (o + [v].length) = x.set o v := by
  rw [List.set_eq_take_append_cons_drop, if_pos h]; simp
theorem near_go {sv u v : AV} : ∀ (j i : Nat) (M : Mem) (rows : List (List AV)) (rb : Nat), i + j = rows.length → rows.length < 9223372036854775807 → TRow 22 M sv rows (some rb) → (∀ x ∈ rows, VOk x) →
    ∃ M' rows', D41.gor 16385 [sv, u, v, .int .i64 (i : Int)] M = D41.gor 16388 [sv, u, v] M' ∧ TRow 22 M' sv rows' (some rb) ∧ rows'.length = rows.length ∧ (∀ x ∈ rows', VOk x) ∧ Fr M M' [rb]
  | 0, i, M, rows, rb, h, hl, hr, ho => by
    have c : ¬ (i : Int) < (rows.length : Int) := by omega
    refine ⟨M, rows, ?_, hr, rfl, ho, (Fr.refl M).any _⟩
    rw [g4_1_is]
    simp only [G4_1, p1, p2, condA, w_g4_1, VRow.lenT hu36 hr.v, c, decide_false]
  | j + 1, i, M, rows, rb, h, hl, hr, ho => by
    have c : (i : Int) < (rows.length : Int) := by omega
    have hi : i < rows.length := by omega
    have hx := ho _ (List.getElem_mem hi)
    obtain ⟨b, b1, b2⟩ := hr.ixT hu36 hs36 hi
    cases b1
    obtain ⟨b', g1, _, _, g4, _⟩ := hr.fld hi
    cases g1
    have r2 := g4 2 (by omega)
    rw [hx.c2] at r2
    obtain ⟨role, hrole⟩ : ∃ r, r = pickF (vrole rows[i]) 3 := ⟨_, rfl⟩
    obtain ⟨b', k1, k2, k3⟩ := hr.sto hi (o := 2) (vs := [.int .i64 role]) (by simp) rfl
    cases k1
    rw [set_app _ _ _ (by rw [hx.len]; omega)] at k2 k3
    obtain ⟨M1, hM1⟩ : ∃ M1, M1 = M.put rb (some (.cells (rows.set i (rows[i].set 2 (.int .i64 role))).flatten false)) := ⟨_, rfl⟩
    rw [← hM1] at k2 k3
    have f1 : Fr M M1 [rb] := by rw [hM1]; exact Fr.put _ _ _
    have hi2 : i < (rows.set i (rows[i].set 2 (.int .i64 role))).length := by rw [List.length_set]; exact hi
    obtain ⟨b', g1, _, _, g4', _⟩ := k3.fld hi2
    cases g1
    have r4 := g4' 4 (by omega)
    rw [List.getElem_set_self, List.getElem?_set_ne (by decide), hx.c4] at r4
    obtain ⟨b', k1, k4, k5⟩ := k3.sto hi2 (o := 4) (vs := [.int .u64 ((vterm rows[i]).tmod 5)]) (by simp) rfl
    cases k1
    rw [List.getElem_set_self, set_app _ _ _ (by rw [List.length_set, hx.len]; omega), List.set_set] at k4 k5
    obtain ⟨M2, hM2⟩ : ∃ M2, M2 = M1.put rb (some (.cells (rows.set i ((rows[i].set 2 (.int .i64 role)).set 4 (.int .u64 ((vterm rows[i]).tmod 5)))).flatten false)) := ⟨_, rfl⟩
    rw [← hM2] at k4 k5
    have f2 : Fr M1 M2 [rb] := by rw [hM2]; exact Fr.put _ _ _
    have ad : binA Tryz.prog .add 3 (.int .i64 (i : Int)) (.int .i64 1) = some (.int .i64 ((i + 1 : Nat) : Int)) := add_i64 (by omega) (by omega) (by omega)
    have hln : (rows.set i ((rows[i].set 2 (.int .i64 role)).set 4 (.int .u64 ((vterm rows[i]).tmod 5)))).length = rows.length := List.length_set ..
    obtain ⟨M', rows', q1, q2, q3, q4, q5⟩ := near_go (u := u) (v := v) j (i + 1) M2 _ rb (by rw [hln]; omega) (by rw [hln]; exact hl) k5 (fun x hx' => by
      rcases List.mem_or_eq_of_mem_set hx' with hx' | rfl
      · exact ho x hx'
      · exact hx.put _ _)
    refine ⟨M', rows', ?_, q2, by rw [q3, hln], q4, (f1.step f2 (by simp)).step q5 (by simp)⟩
    have s1 : stV M (.ptr (some ⟨rb, i * 22 + 2⟩)) (.int .i64 role) 1 = some M1 := (stV_one rfl).trans k2
    have s2 : stV M1 (.ptr (some ⟨rb, i * 22 + 4⟩)) (.int .u64 ((vterm rows[i]).tmod 5)) 1 = some M2 := (stV_one rfl).trans k4
    have ix := b2 .i64
    rw [g4_1_is]
    simp only [G4_1, p1, p2, condA, w_g4_1, VRow.lenT hu36 hr.v, c, decide_true]
    rw [g4_2_is]
    simp only [G4_2, Int.ofNat_eq_natCast, Int.cast_ofNat_Int, p2, p1, q1, Nat.reduceAdd, w_g4_2, ix, Nat.add_assoc, r2, pick_is _ _ (show (3 : Int) ≠ 0 by decide), ← hrole, s1, r4, bin_rem _ _ _ _ (show (5 : Int) ≠ 0 by decide), s2, g4_3_is (H := H41), G4_3, w_g4_3, ad]
theorem fin4 {M : Mem} {bu bv : Nat} {p q : Bool} {s1 s2 sv : AV} {es1 es2 : List EntS} {l : List (List AV)} (hu : M.get bu = some (.cells (vw p s1) false)) (hv : M.get bv = some (.cells (vw q s2) false)) (h1 : Ents M s1 es1) (h2 : Ents M s2 es2) (l1 : es1.length < 1000) (l2 : es2.length < 1000) (nd : (es2.map (·.index)).Nodup)
    (hs : Vs M sv l) (hl : l.length < 9223372036854775807) : ∃ M', D41.gor 16388 [sv, .ptr (some ⟨bu, 0⟩), .ptr (some ⟨bv, 0⟩)] M = some (.bool true, M') := by
  have lu : ∀ M', Fr M M' [] → ldN M' (.ptr (some ⟨bu, 0⟩)) 22 = some (.agg (vw p s1)) := fun M' hf => by rw [ldN_at (hf.get hu (by simp)) (by simp)]; rfl
  have lv : ∀ M', Fr M M' [] → ldN M' (.ptr (some ⟨bv, 0⟩)) 22 = some (.agg (vw q s2)) := fun M' hf => by rw [ldN_at (hf.get hv (by simp)) (by simp)]; rfl
  obtain ⟨M1, r1, f1⟩ := alike_is (u := p) (v := q) h1 h2 l1 l2 nd
  obtain ⟨M2, r2, f2⟩ := aliker_is (u := p) (v := q) (h1.frame0 f1) (h2.frame0 f1) l1 l2
  have f12 := f1.step0 f2
  obtain ⟨M3, r3, f3⟩ := lead_is hl (hs.frame0 f12)
  obtain ⟨M4, r4, f4⟩ := leadr_is hl (hs.frame0 (f12.step0 f3))
  rw [alike_same nd] at r1
  refine ⟨M4, ?_⟩
  rw [g4_4_is]
  simp only [G4_4, q1, p2, w_g4_4, known_is, lu M (Fr.refl M), lv M (Fr.refl M), lu M1 f1, lv M1 f1, r1, r2, r3, r4, ifV, beq_self_eq_true, ift]
theorem pickF_range {n k : Int} (h1 : 0 < k) (h2 : k < 1000) : 0 ≤ pickF n k ∧ pickF n k < k := by
  have e1 := Int.tmod_lt_of_pos n h1
  have e2 := Int.lt_tmod_of_pos n h1
  unfold pickF
  generalize n.tmod k = r at *
  split
  · rw [wrap_i64_if]; split <;> omega
  · omega
theorem bs0 (n : Nat) (zs : List AV) : bsA n 0 zs [] = some (.cells [] false, fun b => .sl (some ⟨b, 0⟩) n 0 0 true) := rfl
section
variable {m : Mem} {sv : AV} {l : List (List AV)}
theorem tail_is {M : Mem} {bu bv : Nat} {p q : Bool} {s1 s2 : AV} {es1 es2 : List EntS} (hu : M.get bu = some (.cells (vw p s1) false)) (hv : M.get bv = some (.cells (vw q s2) false)) (h1 : Ents M s1 es1) (h2 : Ents M s2 es2) (l1 : es1.length < 1000) (l2 : es2.length < 1000) (nd : (es2.map (·.index)).Nodup)
    (hs : VRow 22 M sv l) (ho : ∀ x ∈ l, VOk x) (hl : l.length * 208 ≤ maxBytes) : ∃ M', D41.gor 16384 [sv, .ptr (some ⟨bu, 0⟩), .ptr (some ⟨bv, 0⟩)] M = some (.bool true, M') := by
  have hl' : l.length < 9223372036854775807 := by unfold maxBytes at hl; omega
  obtain ⟨s', m', rb, a1, a2, a3, a4⟩ := clone_vrow (n := 22) (w := 208) hs hl
  obtain ⟨M2, rows, b1, b2, b3, b4, b5⟩ := near_go (u := .ptr (some ⟨bu, 0⟩)) (v := .ptr (some ⟨bv, 0⟩)) l.length 0 m' l rb (by omega) hl' a2 ho
  have hf : Fr M M2 [] := a4.step b5 (by simpa using a3)
  obtain ⟨M3, c1⟩ := fin4 (hf.get hu (by simp)) (hf.get hv (by simp)) (h1.frame0 hf) (h2.frame0 hf) l1 l2 nd ⟨b2.v, b4⟩ (by rw [b3]; exact hl')
  refine ⟨M3, ?_⟩
  rw [show ((0 : Nat) : Int) = 0 from rfl] at b1
  rw [g4_0_is]
  simp only [G4_0, Int.ofNat_eq_natCast, Int.cast_ofNat_Int, apE, w_g4_0, bs0, a1, b1, c1]
end
theorem box_over (p : Bool) {s : AV} (h : s.one = true) : over (vw false (.sl none 0 0 0 true)) 0 (.agg (vw p s)) 22 = some (vw p s) := by
  have hc : (AV.agg (vw p s)).cells = some (vw p s) := agg_cells (by simp only [List.all_cons, List.all_nil, h, Bool.and_true]; rfl)
  unfold over
  rw [hc]; rfl
theorem law_is {m : Mem} {sa sb sv : AV} {ra rb : List EntS} {l : List (List AV)} (ha : Raws m sa ra) (hb : Raws m sb rb) {x y : Int} (hx : 0 ≤ x) (hy : 0 ≤ y) (p q : Bool) (n : Int) (hs : VRow 22 m sv l) (ho : ∀ x ∈ l, VOk x) (hl : l.length * 208 ≤ maxBytes) :
    ∃ m', run E41 (.fn 4) [sa, sb, .int .u64 x, .int .u64 y, .bool p, .bool q, .int .i64 n, sv] m = some (.bool true, m') := by
  obtain ⟨m1, s1, es1, e1, h1, l1, nd1, f1, _, _⟩ := view_is ha hx p
  obtain ⟨M2, hM2⟩ : ∃ M2, M2 = m1.lay (.cells (vw p s1) false) := ⟨_, rfl⟩
  have f2 : Fr m1 M2 [] := by rw [hM2]; exact (Fr.refl m1).lay _
  have f02 := f1.step0 f2
  have u2 : M2.get m1.next = some (.cells (vw p s1) false) := by rw [hM2]; exact lay_self _ _
  have n2 : M2.next = m1.next + 1 := by rw [hM2]; rfl
  obtain ⟨m3, s2, es2, e3, h3, l3, nd3, f3, _, _⟩ := view_is (hb.frame0 f02) hy q
  have n3 := f3.next
  obtain ⟨M4, hM4⟩ : ∃ M4, M4 = m3.lay (.cells (vw q s2) false) := ⟨_, rfl⟩
  have f4 : Fr m3 M4 [] := by rw [hM4]; exact (Fr.refl m3).lay _
  have n4 : M4.next = m3.next + 1 := by rw [hM4]; rfl
  have f24 := f3.step0 f4
  have f14 := f2.step0 f24
  have f04 := f02.step0 f24
  have u4 := f24.get u2 (by simp)
  have v4 : M4.get m3.next = some (.cells (vw q s2) false) := by rw [hM4]; exact lay_self _ _
  have st1 : stV (m1.lay (.cells (vw false (.sl none 0 0 0 true)) false)) (.ptr (some ⟨m1.next, 0⟩)) (.agg (vw p s1)) 22 = some M2 := by
    rw [stV_lay, if_pos rfl, box_over p h1.one, hM2]; rfl
  have st3 : stV (m3.lay (.cells (vw false (.sl none 0 0 0 true)) false)) (.ptr (some ⟨m3.next, 0⟩)) (.agg (vw q s2)) 22 = some M4 := by
    rw [stV_lay, if_pos rfl, box_over q h3.one, hM4]; rfl
  have main : ∀ M, Fr m1 M [m3.next] → M.get m1.next = some (.cells (vw p s1) false) → ∀ s2' es2', M.get m3.next = some (.cells (vw q s2') false) → Ents M s2' es2' → es2'.length < 1000 → (es2'.map (·.index)).Nodup → Fr m M [] → ∃ M', D41.gor 16384 [sv, .ptr (some ⟨m1.next, 0⟩), .ptr (some ⟨m3.next, 0⟩)] M = some (.bool true, M') := fun M hf hu s2' es2' hv he hl2 nd hm =>
    tail_is hu hv (h1.frameN hf (by simp; omega)) he (by omega) hl2 nd (hs.frame0 hm) ho hl
  by_cases c3 : n.tmod 3 = 0
  · obtain ⟨s', m5, rk, a1, a2, a3, a4⟩ := clone_vrow (n := 5) (w := 56) (h1.frame0 f14).row (by rw [List.length_map]; unfold maxBytes; omega)
    have n5 := a4.next
    obtain ⟨M6, hM6⟩ : ∃ M6, M6 = m5.put m3.next (some (.cells (vw q s') false)) := ⟨_, rfl⟩
    have hone : s'.one = true := a2.one
    have v5 := a4.get v4 (by simp)
    have st6 : stV m5 (.ptr (some ⟨m3.next, 17⟩)) s' 1 = some M6 := (stV_at (o := 17) (n := 1) (vs := [s']) v5 (cells1 hone) rfl (by simp)).trans (by rw [hM6]; rfl)
    have u6 : M6.get m1.next = some (.cells (vw p s1) false) := by rw [hM6, put_ne (by omega)]; exact a4.get u4 (by simp)
    have v6 : M6.get m3.next = some (.cells (vw q s') false) := by rw [hM6]; exact put_self v5
    have fp : Fr m5 M6 [m3.next] := by rw [hM6]; exact Fr.put _ _ _
    have f16 : Fr m1 M6 [m3.next] := ((f14.any _).step a4 (by simp)).step fp (by simp)
    have f06 : Fr m M6 [] := (f04.step0 a4).step fp (by simp; have := f1.next; omega)
    have e16 := h1.frameN f16 (by simp; omega)
    have r6 := a2.frame fp (fun c hc => by cases hc; simp; omega)
    have e6 : Ents M6 s' es1 := ⟨r6.v, e16.ok⟩
    have l1' : ld1 (M4.lay (.cells [] false)) (.ptr (some ⟨m1.next, 17⟩)) = some s1 := by rw [ld1_at (cs := vw p s1) (ro := false) (by rw [lay_ne (by omega)]; exact u4)]; rfl
    have l6 : ld1 M6 (.ptr (some ⟨m3.next, 17⟩)) = some s' := by rw [ld1_at v6]; rfl
    obtain ⟨M', r⟩ := main M6 f16 u6 s' es1 v6 e6 (by omega) nd1 f06
    have len6 := Ents_len e6
    by_cases h0 : (es1.length : Int) > 0
    · by_cases h2 : n.tmod 2 = 0
      · have pr := pickF_range (n := n) (k := (es1.length : Int)) (by omega) (by omega)
        obtain ⟨k, hk⟩ : ∃ k : Nat, pickF n (es1.length : Int) = (k : Int) := ⟨(pickF n (es1.length : Int)).toNat, by omega⟩
        have hkl : k < es1.length := by omega
        have hkm : k < (es1.map EntS.cells).length := by rw [List.length_map]; exact hkl
        obtain ⟨b, b1, b2⟩ := r6.ixT hu29 hs29 hkm
        cases b1
        obtain ⟨b', g1, _, _, g4, _⟩ := r6.fld hkm
        cases g1
        have rt := g4 1 (by omega)
        rw [List.getElem_map] at rt
        obtain ⟨T, hT⟩ : ∃ T, T = IntKind.u64.wrap (es1[k].term + 1) := ⟨_, rfl⟩
        obtain ⟨b', k1, k2, k3⟩ := r6.sto hkm (o := 1) (vs := [.int .u64 T]) (by simp) rfl
        cases k1
        have hrow : (es1.map EntS.cells).set k (((es1.map EntS.cells)[k]'hkm).take 1 ++ [.int .u64 T] ++ ((es1.map EntS.cells)[k]'hkm).drop (1 + [AV.int .u64 T].length)) = (es1.set k { es1[k] with term := T }).map EntS.cells := by
          rw [List.map_set, List.getElem_map]; rfl
        rw [hrow] at k2 k3
        obtain ⟨M7, hM7⟩ : ∃ M7, M7 = M6.put rk (some (.cells ((es1.set k { es1[k] with term := T }).map EntS.cells).flatten false)) := ⟨_, rfl⟩
        rw [← hM7] at k2 k3
        have f7 : Fr M6 M7 [rk] := by rw [hM7]; exact Fr.put _ _ _
        have n6 : m5.next = M6.next := by rw [hM6]; rfl
        have f17 : Fr m1 M7 [m3.next, rk] := (f16.mono (T := [m3.next, rk]) (by simp +contextual)).step f7 (by simp)
        have e17 := h1.frameN f17 (by simp; omega)
        have e7 : Ents M7 s' (es1.set k { es1[k] with term := T }) := ⟨k3.v, fun e he => by
          rcases List.mem_or_eq_of_mem_set he with he | rfl
          · exact e17.ok e he
          · have h := e17.ok es1[k] (List.getElem_mem hkl)
            exact ⟨h.1, h.2⟩⟩
        have ix7 : (es1.set k { es1[k] with term := T }).map (·.index) = es1.map (·.index) := by
          rw [List.map_set]
          exact set_here (by rw [List.getElem?_map, List.getElem?_eq_getElem hkl]; rfl)
        have u7 : M7.get m1.next = some (.cells (vw p s1) false) := by rw [hM7, put_ne (by omega)]; exact u6
        have v7 : M7.get m3.next = some (.cells (vw q s') false) := by rw [hM7, put_ne (by omega)]; exact v6
        obtain ⟨M8, r8⟩ := tail_is u7 v7 e17 e7 (by omega) (by rw [List.length_set]; omega) (by rw [ix7]; exact nd1) (hs.frame0 (f06.step f7 (by simp; have := f1.next; omega))) ho hl
        have s7 : stV M6 (.ptr (some ⟨rk, k * 5 + 1⟩)) (.int .u64 T) 1 = some M7 := (stV_one rfl).trans k2
        have ixk := b2 .i64
        refine ⟨M8, ?_⟩
        simp only [f4_is (H := H41) h41_4, F4, Int.ofNat_eq_natCast, Int.cast_ofNat_Int, pB, p2, p1, q1, apE, condA, w_f4, e1, st1, e3, st3, bin_rem _ _ _ _ (show (3 : Int) ≠ 0 by decide), bin_rem _ _ _ _ (show (2 : Int) ≠ 0 by decide), c3, decide_true, bs0, l1', a1, st6, l6, len6, h0, h2, ifV, pick_is n (es1.length : Int) (by omega), hk, ixk, rt, ec, ← hT, s7, r8, ift]
      · refine ⟨M', ?_⟩
        simp only [f4_is (H := H41) h41_4, F4, Int.ofNat_eq_natCast, Int.cast_ofNat_Int, pB, p2, p1, q1, apE, condA, w_f4, e1, st1, e3, st3, bin_rem _ _ _ _ (show (3 : Int) ≠ 0 by decide), bin_rem _ _ _ _ (show (2 : Int) ≠ 0 by decide), c3, decide_true, bs0, l1', a1, st6, l6, len6, h0, h2, decide_false, ifV, r]
    · refine ⟨M', ?_⟩
      simp only [f4_is (H := H41) h41_4, F4, Int.ofNat_eq_natCast, Int.cast_ofNat_Int, pB, p2, p1, q1, apE, condA, w_f4, e1, st1, e3, st3, bin_rem _ _ _ _ (show (3 : Int) ≠ 0 by decide), c3, decide_true, bs0, l1', a1, st6, l6, len6, h0, decide_false, ifV, r]
  · obtain ⟨M', r⟩ := main M4 (f14.any _) u4 s2 es2 v4 (h3.frame0 f4) (by omega) nd3 f04
    refine ⟨M', ?_⟩
    simp only [f4_is (H := H41) h41_4, F4, Int.ofNat_eq_natCast, Int.cast_ofNat_Int, pB, p2, p1, q1, apE, condA, w_f4, e1, st1, e3, st3, bin_rem _ _ _ _ (show (3 : Int) ≠ 0 by decide), c3, decide_false, r]
end Go.Proofs.YtolmealocdgdhaaGreat
end
section
namespace Go.Proofs.YtolmealocdgdhaaGreat
open Go Go.Abs
set_option maxRecDepth 20000
set_option maxHeartbeats 400000
def fldB (P : Program) (fs : Array Field) (o : Nat) (k : IntKind) : Bool := fs.toList.any fun g => g.offset == o && ((match P.underlying g.type with | some (.int k') => decide (k' = k) | _ => false) && P.cellsOf g.type == 1)
def intsB (P : Program) (fs : Array Field) (l : List (Nat × IntKind)) : Bool := l.all fun x => fldB P fs x.1 x.2
section
variable {P : Program} {W : World} {H : Type} {enc : TypeId × Value → H} {B m : Nat} {fs : Array Field} {cs : List Value} {y : DataW H × List MemPlace}
theorem fld_of {o : Nat} {k : IntKind} (h : fldB P fs o k = true) : ∃ g ∈ fs.toList, g.offset = o ∧ P.underlying g.type = some (.int k) ∧ P.cellsOf g.type = 1 := by
  obtain ⟨g, hg, h2⟩ := List.any_eq_true.1 h
  simp only [Bool.and_eq_true, beq_iff_eq] at h2
  obtain ⟨h3, h4, h5⟩ := h2
  refine ⟨g, hg, h3, ?_, h5⟩
  split at h4
  · rename_i k' e
    rw [e, of_decide_eq_true h4]
  · cases h4
theorem Rd.at (r : Rd enc P W B m fs cs) {l : List (Nat × IntKind)} (h : intsB P fs l = true) {o : Nat} {k : IntKind} (hx : (o, k) ∈ l) (ho : o < cs.length) : ∃ n, cs[o]? = some (.int k n) ∧ k.min ≤ n ∧ n ≤ k.max := r.int (fld_of (List.all_eq_true.1 h _ hx)) ho
end
section
variable {W : World} {H : Type} {enc : TypeId × Value → H} {B m : Nat} {cs : List Value} {c : Value} {y : DataW H × List MemPlace}
theorem rd_bytes (h : DataW.trod enc Tryz.prog W 0 (fun _ => true) true m 30 [c] = some y) (hB : ∀ k, k ∈ y.1.weights Tryz.prog 30 → k ≤ B) : ∃ l : List UInt8, Byt (absM W) (absP W c) l ∧ capOk (absP W c) ∧ (absP W c).one = true := by
  have hu8 : Tryz.prog.underlying 5 = some (.int .u8) := by kernel_rfl
  have hc1 : Tryz.prog.cellsOf 5 = 1 := by kernel_rfl
  obtain ⟨l, h1, _⟩ := trod_rows (α := UInt8) (f := fun c => [AV.int .u8 (c.toNat : Int)]) (Q := fun _ => True) (n := 1) (by omega) hu30 hc1 h hB (fun m cs y hl ht _ => by
    match cs, hl with
    | [v], _ =>
      obtain ⟨n, rfl, h1, h2⟩ := trod_int hu8 ht
      have e1 : IntKind.u8.min = 0 := by decide
      have e2 : IntKind.u8.max = 255 := by decide
      exact ⟨UInt8.ofNat n.toNat, by simp only [List.map_cons, List.map_nil, absP]; rw [u8_of (by omega) (by omega)], trivial⟩) (fun a _ => ⟨rfl, rfl⟩)
  have hb : Byt (absM W) (absP W c) l := by
    show VRow 1 _ _ (rows1 (u8 l))
    have : rows1 (u8 l) = l.map fun c => [AV.int .u8 (c.toNat : Int)] := by simp [rows1, u8]
    rw [this]; exact h1
  refine ⟨l, hb, ?_, VRow.one hb⟩
  rcases trod_slice0 hu30 (by rw [hc1]; omega) h with ⟨ex, e⟩ | ⟨a, len, cap, n, cs, e, h2, _⟩
  · rw [e]; rfl
  · rw [e]; exact h2
theorem rd_ent (hl : cs.length = 5) (ht : DataW.trod enc Tryz.prog W 0 (fun _ => true) true m 39 cs = some y) (hB : ∀ k, k ∈ y.1.weights Tryz.prog 39 → k ≤ B) : ∃ a : EntS, cs.map (absP W) = a.cells ∧ ROk (absM W) a := by
  obtain ⟨fs, hfs, hb, g, g1, g2, g3⟩ : ∃ fs, Tryz.prog.underlying 39 = some (.struct fs) ∧ intsB Tryz.prog fs [(0, .i64), (1, .u64), (2, .u64), (4, .i64)] = true ∧ ∃ g ∈ fs.toList, g.offset = 3 ∧ g.type = 30 := ⟨_, rfl, by kernel_rfl, _, .tail _ (.tail _ (.tail _ List.mem_cons_self)), rfl, rfl⟩
  obtain ⟨m', _, r⟩ := Rd.of hfs ht hB
  obtain ⟨a0, e0, _⟩ := Rd.at r hb (o := 0) (k := .i64) (by simp) (by omega)
  obtain ⟨a1, e1, _⟩ := Rd.at r hb (o := 1) (k := .u64) (by simp) (by omega)
  obtain ⟨a2, e2, _⟩ := Rd.at r hb (o := 2) (k := .u64) (by simp) (by omega)
  obtain ⟨a4, e4, _⟩ := Rd.at r hb (o := 4) (k := .i64) (by simp) (by omega)
  obtain ⟨z, z1, z2⟩ := r g g1
  rw [g2, g3, show Tryz.prog.cellsOf 30 = 1 by kernel_rfl] at z1
  rw [g3] at z2
  match cs, hl with
  | [c0, c1, c2, c3, c4], _ =>
    simp only [ge, Option.some.injEq] at e0 e1 e2 e4
    obtain ⟨l, l1, l2⟩ := rd_bytes (c := c3) z1 z2
    subst e0 e1 e2 e4
    exact ⟨⟨a0, a1, a2, absP W c3, a4, l⟩, rfl, l1, l2⟩
theorem arg_ents {v : Value} {base : Nat} {d : DataW H} {p : List MemPlace} (hk : Value.okWide Tryz.prog W .any base 29 v) (h : DataW.Trod enc Tryz.prog W 0 (fun _ => true) true 29 v d p) (hB : ∀ k, k ∈ d.weights Tryz.prog 29 → k ≤ B) : ∃ l : List EntS, Raws (absM W) (absV W v) l := by
  obtain ⟨m, h, e⟩ := arg_sl hu29 hk h
  obtain ⟨l, h1, h2, _⟩ := trod_rows (α := EntS) (f := EntS.cells) (Q := ROk (absM W)) (n := 5) (by omega) hu29 (by kernel_rfl) h hB (fun m cs y hl ht hB => rd_ent hl ht hB) (fun a ha => ⟨rfl, by simp only [EntS.cells, List.all_cons, List.all_nil, ha.2.2, Bool.and_true]; rfl⟩)
  exact ⟨l, by rw [e]; exact .inl h1, h2⟩
theorem rd_view (hl : cs.length = 22) (ht : DataW.trod enc Tryz.prog W 0 (fun _ => true) true m 32 cs = some y) (hB : ∀ k, k ∈ y.1.weights Tryz.prog 32 → k ≤ B) : VOk (cs.map (absP W)) := by
  obtain ⟨fs, hfs, hb, ⟨g, g1, g2, g3, g4⟩, ⟨q, q1, q2, ss, q3, q4, q5, ⟨u, u1, u2, us, u3, u4, u5⟩, ⟨w, w1, w2, ws, w3, w4, w5⟩⟩, ⟨h, h1, h2, h3⟩, ⟨i, i1, i2, i3⟩⟩ : ∃ fs, Tryz.prog.underlying 32 = some (.struct fs) ∧ intsB Tryz.prog fs [(18, .u64), (20, .i64), (21, .i64)] = true ∧ (∃ g ∈ fs.toList, g.offset = 0 ∧ Tryz.prog.underlying g.type = some .bool ∧ Tryz.prog.cellsOf g.type = 1) ∧
      (∃ q ∈ fs.toList, q.offset = 1 ∧ ∃ ss, Tryz.prog.underlying q.type = some (.struct ss) ∧ Tryz.prog.cellsOf q.type = 16 ∧ intsB Tryz.prog ss [(0, .i64), (1, .i64), (2, .i64), (8, .u64), (9, .u64), (10, .i64), (11, .u64), (12, .i64), (13, .i64), (14, .i64), (15, .i64)] = true ∧
        (∃ u ∈ ss.toList, u.offset = 3 ∧ ∃ us, Tryz.prog.underlying u.type = some (.struct us) ∧ Tryz.prog.cellsOf u.type = 2 ∧ intsB Tryz.prog us [(0, .u64), (1, .i64)] = true) ∧
        (∃ w ∈ ss.toList, w.offset = 5 ∧ ∃ ws, Tryz.prog.underlying w.type = some (.struct ws) ∧ Tryz.prog.cellsOf w.type = 3 ∧ intsB Tryz.prog ws [(0, .u64), (1, .u64), (2, .i64)] = true)) ∧
      (∃ h ∈ fs.toList, h.offset = 17 ∧ h.type = 29) ∧ (∃ i ∈ fs.toList, i.offset = 19 ∧ i.type = 30) :=
    ⟨_, rfl, by kernel_rfl, ⟨_, List.mem_cons_self, rfl, rfl, by kernel_rfl⟩, ⟨_, .tail _ List.mem_cons_self, rfl, _, rfl, by kernel_rfl, by kernel_rfl, ⟨_, .tail _ (.tail _ (.tail _ List.mem_cons_self)), rfl, _, rfl, by kernel_rfl, by kernel_rfl⟩, ⟨_, .tail _ (.tail _ (.tail _ (.tail _ List.mem_cons_self))), rfl, _, rfl, by kernel_rfl, by kernel_rfl⟩⟩,
      ⟨_, .tail _ (.tail _ List.mem_cons_self), rfl, rfl⟩, ⟨_, .tail _ (.tail _ (.tail _ (.tail _ List.mem_cons_self))), rfl, rfl⟩⟩
  obtain ⟨m', _, r⟩ := Rd.of hfs ht hB
  obtain ⟨m2, rs⟩ := r.sub (o := 1) (n := 16) ⟨q, q1, q2, q3, q4⟩
  have ls : ((cs.drop 1).take 16).length = 16 := by rw [List.length_take, List.length_drop]; omega
  obtain ⟨m3, ru⟩ := rs.sub (o := 3) (n := 2) ⟨u, u1, u2, u3, u4⟩
  have lu : ((((cs.drop 1).take 16).drop 3).take 2).length = 2 := by rw [List.length_take, List.length_drop]; omega
  obtain ⟨m4, rw'⟩ := rs.sub (o := 5) (n := 3) ⟨w, w1, w2, w3, w4⟩
  have lw : ((((cs.drop 1).take 16).drop 5).take 3).length = 3 := by rw [List.length_take, List.length_drop]; omega
  obtain ⟨a18, e18, _⟩ := Rd.at r hb (o := 18) (k := .u64) (by simp) (by omega)
  obtain ⟨a20, e20, _⟩ := Rd.at r hb (o := 20) (k := .i64) (by simp) (by omega)
  obtain ⟨a21, e21, _⟩ := Rd.at r hb (o := 21) (k := .i64) (by simp) (by omega)
  obtain ⟨a1, e1, _⟩ := Rd.at rs q5 (o := 0) (k := .i64) (by simp) (by omega)
  obtain ⟨a2, e2, _⟩ := Rd.at rs q5 (o := 1) (k := .i64) (by simp) (by omega)
  obtain ⟨a3, e3, _⟩ := Rd.at rs q5 (o := 2) (k := .i64) (by simp) (by omega)
  obtain ⟨a9, e9, _⟩ := Rd.at rs q5 (o := 8) (k := .u64) (by simp) (by omega)
  obtain ⟨a10, e10, _⟩ := Rd.at rs q5 (o := 9) (k := .u64) (by simp) (by omega)
  obtain ⟨a11, e11, _⟩ := Rd.at rs q5 (o := 10) (k := .i64) (by simp) (by omega)
  obtain ⟨a12, e12, _⟩ := Rd.at rs q5 (o := 11) (k := .u64) (by simp) (by omega)
  obtain ⟨a13, e13, _⟩ := Rd.at rs q5 (o := 12) (k := .i64) (by simp) (by omega)
  obtain ⟨a14, e14, _⟩ := Rd.at rs q5 (o := 13) (k := .i64) (by simp) (by omega)
  obtain ⟨a15, e15, _⟩ := Rd.at rs q5 (o := 14) (k := .i64) (by simp) (by omega)
  obtain ⟨a16, e16, _⟩ := Rd.at rs q5 (o := 15) (k := .i64) (by simp) (by omega)
  obtain ⟨a4, e4, _⟩ := Rd.at ru u5 (o := 0) (k := .u64) (by simp) (by omega)
  obtain ⟨a5, e5, _⟩ := Rd.at ru u5 (o := 1) (k := .i64) (by simp) (by omega)
  obtain ⟨a6, e6, _⟩ := Rd.at rw' w5 (o := 0) (k := .u64) (by simp) (by omega)
  obtain ⟨a7, e7, _⟩ := Rd.at rw' w5 (o := 1) (k := .u64) (by simp) (by omega)
  obtain ⟨a8, e8, _⟩ := Rd.at rw' w5 (o := 2) (k := .i64) (by simp) (by omega)
  obtain ⟨z, z1, z2⟩ := r h h1
  rw [h2, h3, show Tryz.prog.cellsOf 29 = 1 by kernel_rfl] at z1
  rw [h3] at z2
  obtain ⟨v, v1, v2⟩ := r i i1
  rw [i2, i3, show Tryz.prog.cellsOf 30 = 1 by kernel_rfl] at v1
  rw [i3] at v2
  obtain ⟨x, x1, x2⟩ := r g g1
  rw [g2, g4] at x1
  match cs, hl with
  | [c0, c1, c2, c3, c4, c5, c6, c7, c8, c9, c10, c11, c12, c13, c14, c15, c16, c17, c18, c19, c20, c21], _ =>
    simp only [ge, List.drop_succ_cons, List.drop_zero, List.take_succ_cons, List.take_zero, Option.some.injEq] at e1 e2 e3 e4 e5 e6 e7 e8 e9 e10 e11 e12 e13 e14 e15 e16 e18 e20 e21
    obtain ⟨b, rfl⟩ := trod_bool g3 x1
    obtain ⟨l, l1, _⟩ := trod_rows (α := EntS) (f := EntS.cells) (Q := ROk (absM W)) (n := 5) (by omega) hu29 (by kernel_rfl) z1 z2 (fun m cs y hl ht hB => rd_ent hl ht hB) (fun a ha => ⟨rfl, by simp only [EntS.cells, List.all_cons, List.all_nil, ha.2.2, Bool.and_true]; rfl⟩)
    have o1 := l1.one
    obtain ⟨l', _, _, o2⟩ := rd_bytes (c := c19) v1 v2
    subst e1 e2 e3 e4 e5 e6 e7 e8 e9 e10 e11 e12 e13 e14 e15 e16 e18 e20 e21
    refine VOk.of (u := b) (r := a2) (t := a4) rfl ?_ rfl rfl rfl
    simp only [List.map_cons, List.map_nil, List.all_cons, List.all_nil, o1, o2]
    rfl
theorem arg_views {v : Value} {base : Nat} {d : DataW H} {p : List MemPlace} (hk : Value.okWide Tryz.prog W .any base 36 v) (h : DataW.Trod enc Tryz.prog W 0 (fun _ => true) true 36 v d p) (hB : ∀ k, k ∈ d.weights Tryz.prog 36 → k ≤ B) : ∃ l : List (List AV), VRow 22 (absM W) (absV W v) l ∧ (∀ x ∈ l, VOk x) ∧ l.length * 208 ≤ B := by
  obtain ⟨m, h, e⟩ := arg_sl hu36 hk h
  obtain ⟨l, h1, h2, h3⟩ := trod_rows (α := List AV) (f := fun x => x) (Q := VOk) (n := 22) (by omega) hu36 (by kernel_rfl) h hB (fun m cs y hl ht hB => ⟨cs.map (absP W), rfl, rd_view hl ht hB⟩) (fun a ha => ⟨ha.len, ha.one⟩)
  rw [List.map_id'] at h1
  exact ⟨l, by rw [e]; exact h1, h2, by rwa [show Tryz.prog.bytesOf 32 = 208 by kernel_rfl] at h3⟩
end
end Go.Proofs.YtolmealocdgdhaaGreat
end
section
namespace Go.Proofs.YtolmealocdgdhaaGreat
open Go Go.Abs
set_option maxRecDepth 20000
theorem known_run9 : ((XD EV TB 4000).call (.fn 9) [] (noM (GP Tryz.prog))).map (·.1) = some (.bool true) := by kernel_rfl
theorem known_runs9 : ∃ m', run EV (.fn 9) [] (noM (GP Tryz.prog)) = some (.bool true, m') := by
  have h := known_run9
  cases e : (XD EV TB 4000).call (.fn 9) [] (noM (GP Tryz.prog)) with
  | none => rw [e] at h; cases h
  | some r =>
    rw [e] at h
    obtain ⟨v, m'⟩ := r
    simp only [Option.map_some, Option.some.injEq] at h
    subst h
    exact ⟨m', run_of_X (E := EV) V_ok 4000 e⟩
end Go.Proofs.YtolmealocdgdhaaGreat
end
