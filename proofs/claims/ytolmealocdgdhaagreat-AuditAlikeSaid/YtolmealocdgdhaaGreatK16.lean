/- Texts of one claim, put together. -/
import Derived.Test.YtolmealocdgdhaaGreatK15
section
namespace Go.Proofs.YtolmealocdgdhaaGreat
open Go Go.Abs
set_option maxRecDepth 20000
noncomputable abbrev H40 : FuncId → Option (List AV → Mem → R) := hookAt 9 (closedH (.bool true)) HV
noncomputable abbrev D40 : Do := Da H40
theorem hfree40 (f : Nat) (h3 : f ≠ 9) (hf : f ∉ hooksN ++ localN) : H40 f = none := (hookAt_other h3 _ _).trans (HV_free f hf)
theorem h40_90 : H40 90 = none := hfree40 90 (by decide) (by decide)
theorem h40_45 : H40 45 = none := hfree40 45 (by decide) (by decide)
theorem h40_47 : H40 47 = none := hfree40 47 (by decide) (by decide)
section
variable {m m' : Mem} {s t : AV} {a b : List UInt8}
theorem hu30 : Tryz.prog.underlying 30 = some (.slice 5) := by kernel_rfl
theorem hs30 : szT Tryz.prog 5 = some 1 := by kernel_rfl
theorem Byt_len (h : Byt m s a) : lenT Tryz.prog 30 s = some (.int .i64 (a.length : Int)) := by
  have := VRow.lenT hu30 h
  simpa using this
theorem Byt_at (h : Byt m s a) {i : Nat} (hi : i < a.length) : ∃ b o, b < m.next ∧ indexAddrA Tryz.prog 30 s (.int .i64 (i : Int)) = some (.ptr (some ⟨b, o⟩)) ∧ ld1 m (.ptr (some ⟨b, o⟩)) = some (.int .u8 (a[i].toNat : Int)) := by
  obtain ⟨b, o, e1, e2, e3, _⟩ := VRow.ixT hu30 hs30 h (i := i) (by simpa using hi)
  have := e3 0 (by omega)
  exact ⟨b, o, e1, e2 _, by simpa using this⟩
theorem bytesA_u8 : ∀ l : List UInt8, bytesA (u8 l) = some l
  | [] => rfl
  | x :: l => by
    show (bytesA (u8 l)).map (UInt8.ofNat ((x.toNat : Int).toNat) :: ·) = _
    rw [bytesA_u8 l]; simp
theorem Byt_str (h : Byt m s a) : toStrA Tryz.prog 30 s m = some (.str a) := by
  have he : Tryz.prog.underlying 5 = some (.int .u8) := by kernel_rfl
  unfold toStrA
  simp only [hu30, he]
  rcases h with ⟨h0, ⟨h1, sz, cap, ex, rfl⟩ | ⟨b, o, sz, cap, ex, ro, cs, rfl, h2, h3, h4, h5⟩⟩
  · have : a = [] := by simpa using h1
    subst this; rfl
  · simp only [List.length_map, Nat.mul_one] at h4 h5
    simp only [List.length_map, ldCells, h3, if_pos h4, h5, Option.bind_some, flat_single, bytesA_u8, Option.map_some]
theorem Byt_frame0 (h : Byt m s a) (hf : Fr m m' []) : Byt m' s a := VRow.frame0 h hf
theorem drop_dec {i : Nat} (hi : i < a.length) (hj : i < b.length) : decide (a.drop i = b.drop i) = (decide (a[i] = b[i]) && decide (a.drop (i + 1) = b.drop (i + 1))) := by
  rw [List.drop_eq_getElem_cons hi, List.drop_eq_getElem_cons hj]
  simp only [List.cons.injEq, Bool.decide_and]
theorem eqGo (hb : a.length < 1000) (hs : Byt m s a) (ht : Byt m t b) (hl : a.length = b.length) : ∀ k i : Nat, i + k = a.length → D40.gor 368641 [s, t, .int .i64 (a.length : Int), .int .i64 (i : Int)] m = some (.bool (decide (a.drop i = b.drop i)), m)
  | 0, i, h => by
    have c : ¬ (i : Int) < (a.length : Int) := by omega
    rw [g90_1_is]
    simp only [G90_1, p2, condA, w_g90_1, c, decide_false, g90_4_is (H := H40), G90_4, w_g90_4]
    rw [List.drop_of_length_le (by omega), List.drop_of_length_le (by omega)]; rfl
  | k + 1, i, h => by
    have c : (i : Int) < (a.length : Int) := by omega
    obtain ⟨b1, o1, _, e1, e2⟩ := Byt_at hs (i := i) (by omega)
    obtain ⟨b2, o2, _, e3, e4⟩ := Byt_at ht (i := i) (by omega)
    have ih := eqGo hb hs ht hl k (i + 1) (by omega)
    have ci : binA Tryz.prog .add 3 (.int .i64 (i : Int)) (.int .i64 1) = some (.int .i64 ((i + 1 : Nat) : Int)) := add_i64 (by omega) (by omega) (by omega)
    rw [drop_dec (by omega) (by omega)]
    rw [g90_1_is]
    simp only [G90_1, Int.ofNat_eq_natCast, Int.cast_ofNat_Int, p2, condA, w_g90_1, c, decide_true, g90_2_is (H := H40), G90_2, q1, w_g90_2, e1, e2, e3, e4, g90_3_is (H := H40), G90_3, w_g90_3, ci, ih]
    by_cases hq : a[i] = b[i]
    · simp [hq]
    · have : ¬ (a[i].toNat : Int) = (b[i].toNat : Int) := fun h => hq (UInt8.toNat_inj.1 (by omega))
      simp [hq, this]
theorem equal_is (hb : a.length < 1000) (hs : Byt m s a) (ht : Byt m t b) : run (Ea H40) (.fn 90) [s, t] m = some (.bool (decide (a = b)), m) := by
  have e0 := eqGo hb hs ht
  simp only [f90_is (H := H40) h40_90, F90, p1, p2, condA, w_f90, Byt_len hs, Byt_len ht]
  by_cases hl : a.length = b.length
  · have e1 := e0 hl a.length 0 (by omega)
    have hl' : (a.length : Int) = (b.length : Int) := by omega
    simp only [List.drop_zero, hl'] at e1
    simp only [hl', decide_true, Bool.not_true, g90_0_is (H := H40), G90_0, Int.ofNat_eq_natCast, Int.cast_ofNat_Int, p1, w_g90_0, Byt_len hs]
    exact e1
  · have h1 : ¬ (a.length : Int) = (b.length : Int) := by omega
    have h2 : ¬ a = b := fun h => hl (by rw [h])
    simp only [h1, h2, decide_false, Bool.not_false]
end
def EOk (m : Mem) (e : EntS) : Prop := Byt m e.sl e.data ∧ e.data.length < 1000 ∧ e.sl.one = true
theorem EOk.frame0 {m m' : Mem} {e : EntS} (h : EOk m e) (hf : Fr m m' []) : EOk m' e := ⟨Byt_frame0 h.1 hf, h.2⟩
theorem box_ent {e : EntS} (h : e.sl.one = true) : boxA (.agg e.cells) = some (.cells e.cells false, fun b => .ptr (some ⟨b, 0⟩)) := box_agg (by simp only [EntS.cells, List.all_cons, List.all_nil, h, Bool.and_true]; rfl)
theorem ifV_and (p q : Bool) (m : Mem) : ifV (.bool p) (some (AV.bool q, m)) (some (AV.bool false, m)) = some (AV.bool (p && q), m) := by cases p <;> rfl
theorem same_is {m : Mem} {a b : EntS} (ha : EOk m a) (hb : EOk m b) : Res m (run (Ea H40) (.fn 45) [.agg a.cells, .agg b.cells] m) (.bool (sameE a b)) := by
  have hf : Fr m ((m.lay (.cells a.cells false)).lay (.cells b.cells false)) [] := ((Fr.refl m).lay _).lay _
  have e1 := equal_is ha.2.1 (ha.frame0 hf).1 (hb.frame0 hf).1
  unfold EntS.cells at e1
  unfold EntS.cells at hf
  have b1 := box_ent ha.2.2
  have b2 := box_ent hb.2.2
  unfold EntS.cells at b1 b2
  simp only [EntS.cells, f45_is (H := H40) h40_45, F45, p1, q1, p2, w_f45, b1, b2, lcl, e1, ifV_and]
  exact Res.eq hf rfl
theorem samer_is {m : Mem} {a b : EntS} (ha : EOk m a) (hb : EOk m b) : Res m (run (Ea H40) (.fn 47) [.agg a.cells, .agg b.cells] m) (.bool (sameE a b)) := by
  have hf : Fr m ((m.lay (.cells a.cells false)).lay (.cells b.cells false)) [] := ((Fr.refl m).lay _).lay _
  have e1 := Byt_str (ha.frame0 hf).1
  have e2 := Byt_str (hb.frame0 hf).1
  unfold EntS.cells at e1 e2 hf
  have b1 := box_ent ha.2.2
  have b2 := box_ent hb.2.2
  unfold EntS.cells at b1 b2
  simp only [EntS.cells, f47_is (H := H40) h40_47, F47, p1, q1, p2, w_f47, b1, b2, lcl, e1, e2, ifV_and]
  refine Res.eq hf ?_
  unfold sameE
  rw [Bool.and_comm (decide (a.conf = b.conf))]
noncomputable abbrev H41 : FuncId → Option (List AV → Mem → R) := hooksC (Ea H40) [45, 47]
noncomputable abbrev E41 : Env := Ea H41
noncomputable abbrev D41 : Do := Da H41
theorem hfree41 (f : Nat) (h1 : f ≠ 9) (h2 : f ∉ hooksN ++ localN) (h3 : f ∉ ([45, 47] : List Nat) := by decide) : H41 f = none := by
  show (if f ∈ ([45, 47] : List Nat) then some (cleanH (Ea H40) f) else H40 f) = none
  rw [if_neg h3]; exact hfree40 f h1 h2
theorem eok_same {m m2 : Mem} {a : EntS} (h : EOk m a) (h1 : m.next ≤ m2.next) (h2 : ∀ b, m2.get b = m.get b) : EOk m2 a := h.frame0 ⟨h1, fun c _ _ => h2 c⟩
theorem same_at {m : Mem} {a b : EntS} (ha : EOk m a) (hb : EOk m b) : run E41 (.fn 45) [.agg a.cells, .agg b.cells] m = some (.bool (sameE a b), m) :=
  hook_at (f := 45) (E := Ea H40) rfl trivial fun _ h1 h2 => same_is (eok_same ha h1 h2) (eok_same hb h1 h2)
theorem samer_at {m : Mem} {a b : EntS} (ha : EOk m a) (hb : EOk m b) : run E41 (.fn 47) [.agg a.cells, .agg b.cells] m = some (.bool (sameE a b), m) :=
  hook_at (f := 47) (E := Ea H40) rfl trivial fun _ h1 h2 => samer_is (eok_same ha h1 h2) (eok_same hb h1 h2)
end Go.Proofs.YtolmealocdgdhaaGreat
end
section
namespace Go.Proofs.YtolmealocdgdhaaGreat
open Go Go.Abs
set_option maxRecDepth 20000
set_option maxHeartbeats 400000
theorem h41_11 : H41 11 = none := hfree41 11 (by decide) (by decide)
theorem h41_14 : H41 14 = none := hfree41 14 (by decide) (by decide)
theorem h41_13 : H41 13 = none := hfree41 13 (by decide) (by decide)
theorem h41_46 : H41 46 = none := hfree41 46 (by decide) (by decide)
theorem h41_12 : H41 12 = none := hfree41 12 (by decide) (by decide)
theorem known_is (m : Mem) : run E41 (.fn 9) [] m = some (.bool true, m) := run_hook (E := E41) (h := closedH (.bool true)) (show H41 9 = _ from (if_neg (by decide)).trans (hookAt_same 9 _ HV)) [] m
def pickF (n k : Int) : Int := if n.tmod k < 0 then IntKind.i64.wrap (n.tmod k + k) else n.tmod k
theorem pick_is (n k : Int) (hk : k ≠ 0) (m : Mem) : run E41 (.fn 13) [.int .i64 n, .int .i64 k] m = some (.int .i64 (pickF n k), m) := by
  simp only [f13_is (H := H41) h41_13, F13, Int.ofNat_eq_natCast, Int.cast_ofNat_Int, p2, condA, w_f13, g13_0_is (H := H41), G13_0, w_g13_0, bin_rem _ _ _ _ hk]
  unfold pickF
  by_cases h : n.tmod k < 0
  · simp only [h, decide_true, if_true]
  · simp only [h, decide_false, if_false]

abbrev vw (up : Bool) (s : AV) : List AV := [.bool up, .int .i64 0, .int .i64 0, .int .i64 0, .int .u64 0, .int .i64 0, .int .u64 0, .int .u64 0, .int .i64 0, .int .u64 0, .int .u64 0, .int .i64 0, .int .u64 0, .int .i64 0, .int .i64 0, .int .i64 0, .int .i64 0, s, .int .u64 0, .sl none 0 0 0 true, .int .i64 0, .int .i64 0]
structure Ents (m : Mem) (s : AV) (l : List EntS) : Prop where
  row : VRow 5 m s (l.map EntS.cells)
  ok : ∀ e ∈ l, EOk m e
section
variable {m m' : Mem} {s : AV} {l : List EntS}
theorem Ents.frame0 (h : Ents m s l) (hf : Fr m m' []) : Ents m' s l := ⟨h.row.frame0 hf, fun e he => (h.ok e he).frame0 hf⟩
theorem Ents.frameN {S : List Nat} (h : Ents m s l) (hf : Fr m m' S) (hS : ∀ c, c ∈ S → m.next ≤ c) : Ents m' s l := ⟨h.row.frameN hf hS, fun e he => ⟨(h.ok e he).1.frameN hf hS, (h.ok e he).2⟩⟩
theorem Ents.one (h : Ents m s l) : s.one = true := h.row.one
theorem hu29 : Tryz.prog.underlying 29 = some (.slice 39) := by kernel_rfl
theorem hs29 : szT Tryz.prog 39 = some 5 := by kernel_rfl
theorem Ents_len (h : Ents m s l) : lenT Tryz.prog 29 s = some (.int .i64 (l.length : Int)) := by
  have := h.row.lenT hu29
  rwa [List.length_map] at this
theorem Ents_at (h : Ents m s l) {i : Nat} (hi : i < l.length) : ∃ b o, b < m.next ∧ indexAddrA Tryz.prog 29 s (.int .i64 (i : Int)) = some (.ptr (some ⟨b, o⟩)) ∧ (∀ k, k < 5 → ld1 m (.ptr (some ⟨b, o + k⟩)) = l[i].cells[k]?) ∧ ldN m (.ptr (some ⟨b, o⟩)) 5 = some (.agg l[i].cells) := by
  obtain ⟨b, o, e1, e2, e3, _, e4⟩ := h.row.ixT hu29 hs29 (i := i) (by simpa using hi)
  simp only [List.getElem_map] at e3 e4
  exact ⟨b, o, e1, e2 _, e3, e4⟩
end
theorem box_vw (up : Bool) {s : AV} (h : s.one = true) : boxA (.agg (vw up s)) = some (.cells (vw up s) false, fun b => .ptr (some ⟨b, 0⟩)) := box_agg (by simp only [List.all_cons, List.all_nil, h, Bool.and_true]; rfl)
theorem over_ent {e : EntS} (h : e.sl.one = true) (z0 z1 z2 z3 z4 : AV) : over [z0, z1, z2, z3, z4] 0 (.agg e.cells) 5 = some e.cells := by
  have hc : (AV.agg e.cells).cells = some e.cells := agg_cells (by simp only [EntS.cells, List.all_cons, List.all_nil, h, Bool.and_true]; rfl)
  unfold over
  rw [hc]; rfl
theorem ec (e : EntS) : e.cells[0]? = some (.int .i64 e.kind) ∧ e.cells[1]? = some (.int .u64 e.term) ∧ e.cells[2]? = some (.int .u64 e.index) ∧ e.cells[3]? = some e.sl ∧ e.cells[4]? = some (.int .i64 e.conf) ∧ e.cells.length = 5 ∧ e.cells.take 5 = e.cells := ⟨rfl, rfl, rfl, rfl, rfl, rfl, rfl⟩

def MpAt (m : Mem) (b : Nat) (f : Int → Option EntS) : Prop := ∃ L : List (Int × AV), m.get b = some (.map (mEnc L)) ∧ (L.map (·.1)).Nodup ∧ ∀ k, lookI k L = (f k).map fun e => .agg e.cells
theorem MpAt.frame {m m' : Mem} {b : Nat} {f : Int → Option EntS} (h : MpAt m b f) (hf : Fr m m' []) : MpAt m' b f := by
  obtain ⟨L, h1, h2⟩ := h
  exact ⟨L, hf.get h1 (by simp), h2⟩
theorem map_put {m : Mem} {b : Nat} {f : Int → Option EntS} (h : MpAt m b f) (e : EntS) (k : Int) : ∃ m', mapPut Tryz.prog 107 (.map (some b)) (.int .u64 k) (.agg e.cells) m = some m' ∧ MpAt m' b (fun j => if j = k then some e else f j) ∧ Fr m m' [b] ∧ m'.next = m.next := by
  obtain ⟨L, h1, h2, h3⟩ := h
  have hu : Tryz.prog.underlying 107 = some (.map 22 39) := by kernel_rfl
  have hk : Tryz.prog.underlying 22 = some (.int .u64) := by kernel_rfl
  refine ⟨m.put b (some (.map (mEnc (putI k (.agg e.cells) L)))), ?_, ⟨putI k (.agg e.cells) L, ?_, putI_nodup _ _ h2, fun j => ?_⟩, Fr.put _ _ _, rfl⟩
  · simp only [mapPut, hu, hk, Option.bind_some, h1, keyEq_int, mput_enc _ _ _ h2, Option.map_some]
  · exact put_self h1
  · rw [lookI_putI, h3]
    show _ = Option.map _ (if j = k then some e else f j)
    split <;> rfl
theorem map_get {m : Mem} {b : Nat} {f : Int → Option EntS} (h : MpAt m b f) (k : Int) : lookupA Tryz.prog 107 (.map (some b)) (.int .u64 k) true m = some (match f k with | some e => .tup [.agg e.cells, .bool true] | none => .tup [.agg [.int .i64 0, .int .u64 0, .int .u64 0, .sl none 0 0 0 true, .int .i64 0], .bool false]) := by
  obtain ⟨L, h1, h2, h3⟩ := h
  have hu : Tryz.prog.underlying 107 = some (.map 22 39) := by kernel_rfl
  have hk : Tryz.prog.underlying 22 = some (.int .u64) := by kernel_rfl
  have hz : zeroV Tryz.prog 39 = some (.agg [.int .i64 0, .int .u64 0, .int .u64 0, .sl none 0 0 0 true, .int .i64 0]) := by kernel_rfl
  simp only [lookupA, hu, hk, Option.bind_some, mapOf, h1, keyEq_int, mget_enc _ _ h2, h3]
  cases f k with
  | none => simp only [Option.map_none, hz, Option.map_some, if_true]
  | some e => simp only [Option.map_some, if_true]
theorem findE_snoc (l : List EntS) (x : EntS) (k : Int) (h : x.index ∉ l.map (·.index)) : findE (l ++ [x]) k = if k = x.index then some x else findE l k := by
  unfold findE
  rw [List.find?_append]
  by_cases e : k = x.index
  · subst e
    have : l.find? (fun y => decide (y.index = x.index)) = none := by
      rw [List.find?_eq_none]
      intro y hy
      simp only [decide_eq_true_eq]
      exact fun h' => h (List.mem_map.2 ⟨y, hy, h'⟩)
    simp [this]
  · have e2 : ¬ x.index = k := fun h => e h.symm
    simp [e, e2]
theorem add1 {i n : Nat} (h : i < n) (hn : n < 1000) : binA Tryz.prog .add 3 (.int .i64 (i : Int)) (.int .i64 1) = some (.int .i64 ((i + 1 : Nat) : Int)) := add_i64 (by omega) (by omega) (by omega)
theorem fill_is {m0 : Mem} {s : AV} {l : List EntS} (hl : l.length < 1000) (nd : (l.map (·.index)).Nodup) (p : AV) (he0 : Ents m0 s l) {mb : Nat} (hmb : m0.next ≤ mb) : ∀ (k i : Nat) (m : Mem), i + k = l.length → Fr m0 m [mb] → MpAt m mb (findE (l.take i)) →
    ∃ m', D41.gor 45057 [p, .map (some mb), s, .int .i64 (l.length : Int), .int .i64 (i : Int)] m = D41.gor 45060 [p, .map (some mb)] m' ∧ MpAt m' mb (findE l) ∧ Fr m0 m' [mb]
  | 0, i, m, hi, hf, hm => by
    have c : ¬ (i : Int) < (l.length : Int) := by omega
    refine ⟨m, ?_, by rwa [List.take_of_length_le (by omega)] at hm, hf⟩
    rw [g11_1_is]
    simp only [G11_1, p2, condA, w_g11_1, c, decide_false]
  | k + 1, i, m, hi, hf, hm => by
    have c : (i : Int) < (l.length : Int) := by omega
    have hil : i < l.length := by omega
    have he := he0.frameN hf (by simpa using hmb)
    obtain ⟨b, o, e1, e2, e3, e4⟩ := Ents_at he hil
    have eo := over_ent (he.ok l[i] (List.getElem_mem hil)).2.2
    have hf1 : Fr m (m.lay (.cells l[i].cells false)) [] := (Fr.refl m).lay _
    obtain ⟨m1, p1, p2, p3, p4⟩ := map_put (hm.frame hf1) l[i] l[i].index
    have hx : l[i].index ∉ (l.take i).map (·.index) := fun h => by
      obtain ⟨j, hj, e⟩ := List.mem_iff_getElem.1 h
      simp only [List.length_map, List.length_take] at hj
      have e' : (l.map (·.index))[j]'(by simp; omega) = (l.map (·.index))[i]'(by simpa using hil) := by simpa using e
      have := (List.getElem_inj nd).1 e'
      omega
    have ht : l.take (i + 1) = l.take i ++ [l[i]] := by rw [List.take_add_one, List.getElem?_eq_getElem hil]; rfl
    have hm1 : MpAt m1 mb (findE (l.take (i + 1))) := by
      rw [ht]
      have : (fun j => if j = l[i].index then some l[i] else findE (l.take i) j) = findE (l.take i ++ [l[i]]) := funext fun j => (findE_snoc _ _ _ hx).symm
      rw [← this]; exact p2
    obtain ⟨m', r1, r2, r3⟩ := fill_is hl nd p he0 hmb k (i + 1) m1 (by omega) ((hf.lay _).step p3 (by simp)) hm1
    refine ⟨m', ?_, r2, r3⟩
    rw [g11_1_is]
    simp only [G11_1, Int.ofNat_eq_natCast, Int.cast_ofNat_Int, condA, w_g11_1, c, decide_true, g11_2_is (H := H41), G11_2, q1, pB, p1, w_g11_2, e2, e4, lcl, eo, ec, g11_3_is (H := H41), G11_3, w_g11_3, add1 hil hl, r1, Nat.le_refl]
theorem over_z (z0 z1 z2 z3 z4 : AV) : over [z0, z1, z2, z3, z4] 0 (.agg [.int .i64 0, .int .u64 0, .int .u64 0, .sl none 0 0 0 true, .int .i64 0]) 5 = some [.int .i64 0, .int .u64 0, .int .u64 0, .sl none 0 0 0 true, .int .i64 0] := rfl
theorem next8 {p s : AV} {n i : Nat} (hi : i < n) (hn : n < 1000) (d : Bool) (M : Mem) : D41.gor 45064 [p, .bool d, s, .int .i64 (n : Int), .int .i64 (i : Int)] M = D41.gor 45061 [p, .bool d, s, .int .i64 (n : Int), .int .i64 ((i + 1 : Nat) : Int)] M := by
  rw [g11_8_is]
  simp only [G11_8, Int.ofNat_eq_natCast, Int.cast_ofNat_Int, p2, w_g11_8, add1 hi hn]
theorem step7 {p s : AV} {n i : Nat} (hi : i < n) (hn : n < 1000) {M : Mem} {bx be : Nat} {x e : EntS} (h1 : ld1 M (.ptr (some ⟨bx, 0 + 1⟩)) = some (.int .u64 x.term)) (h2 : ld1 M (.ptr (some ⟨be, 0 + 1⟩)) = some (.int .u64 e.term)) (d : Bool) :
    D41.gor 45063 [p, .bool d, .ptr (some ⟨be, 0⟩), .ptr (some ⟨bx, 0⟩), .bool true, s, .int .i64 (n : Int), .int .i64 (i : Int)] M = if (decide (x.term = e.term) && d) = true then some (.bool false, M) else D41.gor 45061 [p, .bool d, s, .int .i64 (n : Int), .int .i64 ((i + 1 : Nat) : Int)] M := by
  have e8 := next8 (p := p) (s := s) hi hn d M
  rw [g11_7_is]
  simp only [Nat.zero_add] at h1 h2
  simp only [G11_7, p1, q1, p2, condA, w_g11_7, ifV, h1, h2]
  by_cases hq : x.term = e.term
  · cases d
    · simp only [hq, decide_true, Bool.and_false, Bool.false_eq_true, if_false, e8]
    · simp only [hq, decide_true, Bool.and_self, if_true]
  · simp only [hq, decide_false, Bool.false_and, Bool.false_eq_true, if_false, e8]
theorem step7n {p s q r : AV} {n i : Nat} (hi : i < n) (hn : n < 1000) {M : Mem} (d : Bool) :
    D41.gor 45063 [p, .bool d, q, r, .bool false, s, .int .i64 (n : Int), .int .i64 (i : Int)] M = D41.gor 45061 [p, .bool d, s, .int .i64 (n : Int), .int .i64 ((i + 1 : Nat) : Int)] M := by
  rw [g11_7_is]
  simp only [G11_7, p1, p2, w_g11_7, ifV, next8 hi hn]
theorem scan_is {s : AV} {l : List EntS} (hl : l.length < 1000) {mb : Nat} {f : Int → Option EntS} : ∀ (k i : Nat) (d : Bool) (m : Mem), i + k = l.length → Ents m s l → MpAt m mb f → (∀ j x, f j = some x → EOk m x) →
    Res m (D41.gor 45061 [.map (some mb), .bool d, s, .int .i64 (l.length : Int), .int .i64 (i : Int)] m) (.bool (alikeP f d (l.drop i)))
  | 0, i, d, m, hi, he, hm, ho => by
    have c : ¬ (i : Int) < (l.length : Int) := by omega
    rw [g11_5_is]
    simp only [G11_5, p2, condA, w_g11_5, c, decide_false, g11_9_is (H := H41), G11_9, w_g11_9]
    rw [List.drop_of_length_le (by omega)]
    exact Res.of (Fr.refl m)
  | k + 1, i, d, m, hi, he, hm, ho => by
    have c : (i : Int) < (l.length : Int) := by omega
    have hil : i < l.length := by omega
    obtain ⟨b, o, e1, e2, e3, e4⟩ := Ents_at he hil
    have oe := he.ok l[i] (List.getElem_mem hil)
    have eo := over_ent oe.2.2
    have hf1 : Fr m (m.lay (.cells l[i].cells false)) [] := (Fr.refl m).lay _
    have mg := map_get (hm.frame hf1) l[i].index
    rw [List.drop_eq_getElem_cons hil]
    unfold alikeP
    generalize l[i] = e at *
    cases hx : f e.index with
    | none =>
      rw [hx] at mg
      have hf : Fr m ((m.lay (.cells e.cells false)).lay (.cells [.int .i64 0, .int .u64 0, .int .u64 0, .sl none 0 0 0 true, .int .i64 0] false)) [] := hf1.lay _
      obtain ⟨m', r1, r2⟩ := scan_is hl k (i + 1) d _ (by omega) (he.frame0 hf) (hm.frame hf) (fun j x h => (ho j x h).frame0 hf)
      refine ⟨m', ?_, hf.step0 r2⟩
      rw [g11_5_is]
      cases d
      all_goals
        simp only [G11_5, Int.ofNat_eq_natCast, Int.cast_ofNat_Int, p2, condA, w_g11_5, c, decide_true, g11_6_is (H := H41), G11_6, q1, pB, p1, q2, extractA, unA, w_g11_6, e2, e4, lcl, eo, ec, mg, over_z, ifV, step7n hil hl]
        exact r1
    | some x =>
      rw [hx] at mg
      have ox := ho _ _ hx
      have eox := over_ent ox.2.2
      have hf : Fr m ((m.lay (.cells e.cells false)).lay (.cells x.cells false)) [] := hf1.lay _
      have sm := same_at (ox.frame0 hf) (oe.frame0 hf)
      have h1 : ld1 ((m.lay (.cells e.cells false)).lay (.cells x.cells false)) (.ptr (some ⟨m.next + 1, 0 + 1⟩)) = some (.int .u64 x.term) := by simp only [lcl, ec]
      have h2 : ld1 ((m.lay (.cells e.cells false)).lay (.cells x.cells false)) (.ptr (some ⟨m.next, 0 + 1⟩)) = some (.int .u64 e.term) := by simp only [lcl, ec]
      have s7 := step7 (p := .map (some mb)) (s := s) hil hl h1 h2 (d || !sameE x e)
      by_cases hc : (decide (x.term = e.term) && (d || !sameE x e)) = true
      · rw [if_pos hc] at s7
        simp only [if_pos hc]
        refine ⟨_, ?_, hf⟩
        rw [g11_5_is]
        cases d
        · simp only [Bool.false_or] at s7
          simp only [G11_5, Int.ofNat_eq_natCast, Int.cast_ofNat_Int, p2, condA, w_g11_5, c, decide_true, g11_6_is (H := H41), G11_6, q1, pB, p1, q2, extractA, unA, w_g11_6, e2, e4, lcl, eo, eox, ec, Nat.le_refl, mg, ifV, sm, s7]
        · simp only [Bool.true_or] at s7
          simp only [G11_5, Int.ofNat_eq_natCast, Int.cast_ofNat_Int, p2, condA, w_g11_5, c, decide_true, g11_6_is (H := H41), G11_6, q1, pB, p1, q2, extractA, unA, w_g11_6, e2, e4, lcl, eo, eox, ec, mg, ifV, s7]
      · rw [if_neg hc] at s7
        simp only [if_neg hc]
        obtain ⟨m', r1, r2⟩ := scan_is hl k (i + 1) (d || !sameE x e) _ (by omega) (he.frame0 hf) (hm.frame hf) (fun j x h => (ho j x h).frame0 hf)
        refine ⟨m', ?_, hf.step0 r2⟩
        rw [g11_5_is]
        cases d
        · simp only [Bool.false_or] at s7 r1 ⊢
          simp only [G11_5, Int.ofNat_eq_natCast, Int.cast_ofNat_Int, p2, condA, w_g11_5, c, decide_true, g11_6_is (H := H41), G11_6, q1, pB, p1, q2, extractA, unA, w_g11_6, e2, e4, lcl, eo, eox, ec, Nat.le_refl, mg, ifV, sm, s7, r1]
        · simp only [Bool.true_or] at s7 r1 ⊢
          simp only [G11_5, Int.ofNat_eq_natCast, Int.cast_ofNat_Int, p2, condA, w_g11_5, c, decide_true, g11_6_is (H := H41), G11_6, q1, pB, p1, q2, extractA, unA, w_g11_6, e2, e4, lcl, eo, eox, ec, mg, ifV, s7, r1]
theorem alike_is {m : Mem} {u v : Bool} {s t : AV} {a b : List EntS} (hs : Ents m s a) (ht : Ents m t b) (ha : a.length < 1000) (hb : b.length < 1000) (nd : (b.map (·.index)).Nodup) :
    Res m (run E41 (.fn 11) [.agg (vw u s), .agg (vw v t)] m) (.bool (!u || (!v || alikeP (findE b) false a))) := by
  have hf : Fr m ((m.lay (.cells (vw u s) false)).lay (.cells (vw v t) false)) [] := ((Fr.refl m).lay _).lay _
  simp only [f11_is (H := H41) h41_11, F11, p1, q1, condA, unA, w_f11, box_vw _ hs.one, box_vw _ ht.one, lcl, ifV]
  cases u
  · exact Res.of hf
  cases v
  · exact Res.of hf
  have h0 : MpAt (((m.lay (.cells (vw true s) false)).lay (.cells (vw true t) false)).lay (.map [])) (m.next + 2) (findE (b.take 0)) := ⟨[], by simp [Mem.get_lay, Mem.next_lay], by simp, fun k => rfl⟩
  obtain ⟨m', r1, r2, r3⟩ := fill_is hb nd (.ptr (some ⟨m.next, 0⟩)) (ht.frame0 hf) (mb := m.next + 2) (Nat.le_refl _) b.length 0 _ (by omega) (((Fr.refl _).lay _).any _) h0
  have hf' : Fr m m' [] := hf.step r3 (by simp)
  have hg : m'.get m.next = some (.cells (vw true s) false) := r3.get (by simp [Mem.get_lay, Mem.next_lay]) (by simp)
  have l17 : ld1 m' (.ptr (some ⟨m.next, 17⟩)) = some s := by rw [ld1_at hg]; rfl
  obtain ⟨m'', q1, q2⟩ := scan_is (mb := m.next + 2) (f := findE b) ha a.length 0 false m' (by omega) (hs.frame0 hf') r2 (fun j x h => (ht.ok x (List.mem_of_find?_eq_some h)).frame0 hf')
  refine ⟨m'', ?_, hf'.step0 q2⟩
  have l18 : ld1 (((m.lay (.cells (vw true s) false)).lay (.cells (vw true t) false)).lay (.map [])) (.ptr (some ⟨m.next + 1, 17⟩)) = some t := by
    rw [ld1_at (cs := vw true t) (ro := false) (by simp [Mem.get_lay, Mem.next_lay])]; rfl
  rw [List.drop_zero, show ((0 : Nat) : Int) = 0 from rfl] at q1
  rw [show ((0 : Nat) : Int) = 0 from rfl] at r1
  simp only [Bool.not_true, g11_0_is (H := H41), G11_0, Int.ofNat_eq_natCast, Int.cast_ofNat_Int, mB, p1, q1, Nat.reduceAdd, lcl, Nat.add_assoc, l18, Ents_len ht, r1, g11_4_is (H := H41), G11_4, w_g11_4, l17, Ents_len (hs.frame0 hf'), Bool.false_or]
end Go.Proofs.YtolmealocdgdhaaGreat
end
section
namespace Go.Proofs.YtolmealocdgdhaaGreat
open Go Go.Abs
set_option maxRecDepth 20000
set_option maxHeartbeats 400000
section
variable {m : Mem} {s t : AV} {a b : List EntS} {p q : Nat}
theorem inR (hs : Ents m s a) (ht : Ents m t b) (hb : b.length < 1000) (hp : ld1 m (.ptr (some ⟨p, 17⟩)) = some s) (hq : ld1 m (.ptr (some ⟨q, 17⟩)) = some t) {i : Nat} (hi : i < a.length) : ∀ (j k : Nat) (d : Bool), k + j = b.length →
    D41.gor 57347 [.ptr (some ⟨p, 0⟩), .ptr (some ⟨q, 0⟩), .bool d, .int .i64 (i : Int), .int .i64 (k : Int)] m = match innerR a[i] (b.drop k) d with
      | none => some (.bool false, m)
      | some d' => D41.gor 57352 [.ptr (some ⟨p, 0⟩), .ptr (some ⟨q, 0⟩), .bool d', .int .i64 (i : Int)] m
  | 0, k, d, h => by
    have c : ¬ (k : Int) < (b.length : Int) := by omega
    rw [List.drop_of_length_le (by omega), g14_3_is]
    simp only [G14_3, p1, q1, p2, condA, w_g14_3, hq, Ents_len ht, c, decide_false, innerR]
  | j + 1, k, d, h => by
    have c : (k : Int) < (b.length : Int) := by omega
    have hk : k < b.length := by omega
    have ih := fun d => inR hs ht hb hp hq hi j (k + 1) d (by omega)
    obtain ⟨b1, o1, _, e1, e2, e3⟩ := Ents_at hs hi
    obtain ⟨b2, o2, _, g1, g2, g3⟩ := Ents_at ht hk
    have sm := samer_at (hs.ok _ (List.getElem_mem hi)) (ht.ok _ (List.getElem_mem hk))
    have e21 := e2 1 (by omega)
    have e22 := e2 2 (by omega)
    have g21 := g2 1 (by omega)
    have g22 := g2 2 (by omega)
    rw [List.drop_eq_getElem_cons hk, g14_3_is]
    simp only [G14_3, p1, q1, p2, condA, w_g14_3, hq, Ents_len ht, c, decide_true]
    simp only [g14_4_is (H := H41), G14_4, p1, q1, p2, condA, w_g14_4, hp, hq, e1, g1, e22, g22, ec]
    unfold innerR
    generalize a[i] = e at *
    generalize b[k] = x at *
    by_cases hx : x.index = e.index
    · simp only [hx, decide_true, Bool.not_true, ne_eq, not_true_eq_false, if_false]
      have s6 : ∀ d', D41.gor 57350 [.ptr (some ⟨p, 0⟩), .ptr (some ⟨q, 0⟩), .bool d', .int .i64 (i : Int), .int .i64 (k : Int)] m = if (d' && !sameE e x) = true then some (.bool false, m) else D41.gor 57347 [.ptr (some ⟨p, 0⟩), .ptr (some ⟨q, 0⟩), .bool d', .int .i64 (i : Int), .int .i64 ((k + 1 : Nat) : Int)] m := fun d' => by
        rw [g14_6_is]
        cases d'
        · simp only [G14_6, Int.ofNat_eq_natCast, Int.cast_ofNat_Int, p1, p2, unA, w_g14_6, ifV, g14_7_is (H := H41), G14_7, w_g14_7, add1 hk hb, Bool.false_and, Bool.false_eq_true, if_false]
        · simp only [G14_6, Int.ofNat_eq_natCast, Int.cast_ofNat_Int, p1, q1, p2, condA, unA, w_g14_6, ifV, hp, hq, e1, g1, e3, g3, sm, g14_7_is (H := H41), G14_7, w_g14_7, add1 hk hb, Bool.true_and]
          cases sameE e x <;> simp
      rw [g14_5_is]
      cases d
      · simp only [G14_5, p1, q1, p2, w_g14_5, ifV, hp, hq, e1, g1, e21, g21, ec, s6, Bool.false_or, ih]
        split <;> rfl
      · simp only [G14_5, p1, p2, w_g14_5, ifV, s6, Bool.true_or, Bool.true_and, ih]
        split <;> rfl
    · simp only [hx, decide_false, Bool.not_false, ne_eq, not_false_eq_true, if_true, g14_7_is (H := H41), G14_7, Int.ofNat_eq_natCast, Int.cast_ofNat_Int, p2, w_g14_7, add1 hk hb, ih]
theorem outR (hs : Ents m s a) (ht : Ents m t b) (ha : a.length < 1000) (hb : b.length < 1000) (hp : ld1 m (.ptr (some ⟨p, 17⟩)) = some s) (hq : ld1 m (.ptr (some ⟨q, 17⟩)) = some t) : ∀ (i : Nat) (d : Bool), i ≤ a.length →
    D41.gor 57345 [.ptr (some ⟨p, 0⟩), .ptr (some ⟨q, 0⟩), .bool d, .int .i64 ((i : Int) - 1)] m = some (.bool (alikeR b d (a.take i).reverse), m)
  | 0, d, _ => by
    have c : ¬ ((0 : Nat) : Int) - 1 ≥ 0 := by omega
    rw [g14_1_is]
    simp only [G14_1, Int.ofNat_eq_natCast, Int.cast_ofNat_Int, p2, condA, w_g14_1, g14_9_is (H := H41), G14_9, w_g14_9]
    rfl
  | i + 1, d, hi => by
    have hil : i < a.length := by omega
    have hv : ((i + 1 : Nat) : Int) - 1 = (i : Int) := by omega
    have c : (i : Int) ≥ 0 := by omega
    have ir := inR hs ht hb hp hq hil b.length 0
    have hr : (a.take (i + 1)).reverse = a[i] :: (a.take i).reverse := by rw [List.take_add_one, List.getElem?_eq_getElem hil]; simp
    have hsub : binA Tryz.prog .sub 3 (.int .i64 (i : Int)) (.int .i64 1) = some (.int .i64 ((i : Int) - 1)) := sub_i64 rfl (by omega) (by omega)
    have ih := outR hs ht ha hb hp hq i
    rw [hv, hr, g14_1_is]
    simp only [G14_1, Int.ofNat_eq_natCast, Int.cast_ofNat_Int, p2, condA, w_g14_1, c, decide_true, g14_2_is (H := H41), G14_2, w_g14_2]
    rw [show (AV.int .i64 0) = .int .i64 ((0 : Nat) : Int) from rfl, ir d (by omega), List.drop_zero]
    unfold alikeR
    cases innerR a[i] b d with
    | none => rfl
    | some d' =>
      simp only
      rw [g14_8_is]
      simp only [G14_8, Int.ofNat_eq_natCast, Int.cast_ofNat_Int, p2, w_g14_8, hsub, ih d' (by omega)]
theorem aliker_is {u v : Bool} (hs : Ents m s a) (ht : Ents m t b) (ha : a.length < 1000) (hb : b.length < 1000) :
    Res m (run E41 (.fn 14) [.agg (vw u s), .agg (vw v t)] m) (.bool (!u || (!v || alikeR b false a.reverse))) := by
  have hf : Fr m ((m.lay (.cells (vw u s) false)).lay (.cells (vw v t) false)) [] := ((Fr.refl m).lay _).lay _
  simp only [f14_is (H := H41) h41_14, F14, p1, q1, condA, unA, w_f14, box_vw _ hs.one, box_vw _ ht.one, lcl, ifV]
  cases u
  · exact Res.of hf
  cases v
  · exact Res.of hf
  have o := outR (p := m.next) (q := m.next + 1) (hs.frame0 hf) (ht.frame0 hf) ha hb (by simp only [lcl]) (by simp only [lcl]) a.length false (Nat.le_refl _)
  have hsub : binA Tryz.prog .sub 3 (.int .i64 (a.length : Int)) (.int .i64 1) = some (.int .i64 ((a.length : Int) - 1)) := sub_i64 rfl (by omega) (by omega)
  rw [List.take_length] at o
  refine ⟨_, ?_, hf⟩
  simp only [Bool.not_true, g14_0_is (H := H41), G14_0, Int.ofNat_eq_natCast, Int.cast_ofNat_Int, p1, q1, p2, w_g14_0, lcl, Ents_len (hs.frame0 hf), hsub]
  simpa using o
end
end Go.Proofs.YtolmealocdgdhaaGreat
end
section
namespace Go.Proofs.YtolmealocdgdhaaGreat
open Go Go.Abs
set_option maxRecDepth 20000
set_option maxHeartbeats 800000
def capOk : AV → Prop
  | .sl none _ _ cap _ => cap = 0
  | .sl (some _) _ len cap _ => len ≤ cap
  | _ => True
def ROk (m : Mem) (e : EntS) : Prop := Byt m e.sl e.data ∧ capOk e.sl ∧ e.sl.one = true
structure Raws (m : Mem) (s : AV) (l : List EntS) : Prop where
  row : ARow 5 m s (l.map EntS.cells)
  ok : ∀ e ∈ l, ROk m e
section
variable {m m' : Mem} {s t : AV} {l : List EntS} {a b : List UInt8}
theorem Raws.frame0 (h : Raws m s l) (hf : Fr m m' []) : Raws m' s l := ⟨h.row.frame0 hf, fun e he => ⟨Byt_frame0 (h.ok e he).1 hf, (h.ok e he).2⟩⟩
theorem Raws_len (h : Raws m s l) : lenT Tryz.prog 29 s = some (.int .i64 (l.length : Int)) := by
  have := h.row.lenT hu29
  rwa [List.length_map] at this
theorem Raws_at (h : Raws m s l) {i : Nat} (hi : i < l.length) : ∃ b o, b < m.next ∧ indexAddrA Tryz.prog 29 s (.int .i64 (i : Int)) = some (.ptr (some ⟨b, o⟩)) ∧ (∀ k, k < 5 → ld1 m (.ptr (some ⟨b, o + k⟩)) = l[i].cells[k]?) := by
  obtain ⟨b, o, e1, e2, e3, _, e4⟩ := h.row.ixT hu29 hs29 (i := i) (by simpa using hi)
  simp only [List.getElem_map] at e3 e4
  exact ⟨b, o, e1, e2 _, e3⟩
theorem rows1_take (a : List UInt8) (n : Nat) : (rows1 (u8 a)).take n = rows1 (u8 (a.take n)) := by simp [rows1, u8, List.map_take]
theorem Byt_upTo (h : Byt m s a) (hc : capOk s) {k : Nat} (hk : k ≤ a.length) : ∃ s', sliceA Tryz.prog 30 s none (some (.int .i64 (k : Int))) = some s' ∧ Byt m s' (a.take k) := by
  rcases h with ⟨h0, ⟨h1, sz, cap, ex, rfl⟩ | ⟨b, o, sz, cap, ex, ro, cs, rfl, h2, h3, h4, h5⟩⟩
  · have ha : a = [] := by simpa using h1
    subst ha
    have hk0 : k = 0 := by simpa using hk
    subst hk0
    have hc0 : cap = 0 := hc
    subst hc0
    exact ⟨.sl none 1 0 0 ex, by simp [sliceA, hs30, hiA, loA], by simp, .inl ⟨rfl, _, _, _, rfl⟩⟩
  · have hc1 : (rows1 (u8 a)).length ≤ cap := hc
    simp only [List.length_map, Nat.mul_one] at hc1 h4
    have h5' : (cs.drop o).take a.length = u8 a := by
      have := h5
      simp only [List.length_map, Nat.mul_one, flat_single] at this
      exact this
    have hlk : (a.take k).length = k := by rw [List.length_take]; omega
    refine ⟨.sl (some ⟨b, o⟩) 1 k cap ex, ?_, ?_, .inr ⟨b, o, 1, cap, ex, ro, cs, ?_, .inl rfl, h3, ?_, ?_⟩⟩
    · have : k ≤ cap := by omega
      have h2' : 1 = sz ∨ ex = true := h2
      simp [sliceA, hs30, hiA, loA, this, h2']
    · rw [← rows1_take]; exact fun x hx => h0 x (List.mem_of_mem_take hx)
    · simp only [List.length_map, hlk]
    · simp only [List.length_map, hlk]; omega
    · simp only [List.length_map, hlk, Nat.mul_one]
      rw [flat_single, show u8 (a.take k) = (u8 a).take k by simp [u8, List.map_take], ← h5', List.take_take, Nat.min_eq_left hk]
theorem u8_one (l : List UInt8) : (u8 l).all AV.one = true := by
  rw [List.all_eq_true]
  intro v hv
  obtain ⟨c, _, rfl⟩ := List.mem_map.1 hv
  rfl
theorem Byt_of {b : Nat} {ro : Bool} {sz cap : Nat} {ex : Bool} (h : m.get b = some (.cells (u8 a) ro)) (hs : 1 = sz ∨ ex = true) : Byt m (.sl (some ⟨b, 0⟩) sz a.length cap ex) a := by
  refine ⟨fun x hx => ?_, .inr ⟨b, 0, sz, cap, ex, ro, u8 a, by simp, hs, h, by simp, ?_⟩⟩
  · obtain ⟨v, hv, rfl⟩ := List.mem_map.1 hx
    exact ⟨rfl, by simp only [List.all_cons, List.all_nil, Bool.and_true]; exact List.all_eq_true.1 (u8_one a) v hv⟩
  · rw [flat_single, List.drop_zero]; simp only [List.length_map, Nat.mul_one]; exact List.take_of_length_le (by simp)
theorem append_byt {x : AV} (hx : Byt m x a) (hl : a.length ≤ 100) {c : UInt8} {b : Nat} (hb : m.get b = some (.cells [.int .u8 (c.toNat : Int)] false)) :
    ∃ s' m', apE 1 1 (.sl (some ⟨b, 0⟩) 1 1 1 true) x m = some (s', m') ∧ Byt m' s' (c :: a) ∧ Fr m m' [b] ∧ s'.one = true ∧ ∃ n o k cap ex, s' = .sl (some ⟨n, o⟩) k (a.length + 1) cap ex ∧ (n = b ∨ m.next ≤ n) := by
  have hsrc := VRow.src hx
  simp only [List.length_map, flat_single] at hsrc
  show ∃ s' m', appendA 1 1 (.sl (some ⟨b, 0⟩) 1 1 1 true) x m = some (s', m') ∧ _
  unfold appendA
  rw [hsrc]
  simp only [u8_one, not_true_eq_false, if_false, true_or, if_true]
  by_cases h0 : a.length = 0
  · have : a = [] := List.length_eq_zero_iff.1 h0
    subst this
    refine ⟨.sl (some ⟨b, 0⟩) 1 1 1 true, m.put b (some (.cells [.int .u8 (c.toNat : Int)] false)), ?_, ?_, Fr.put _ _ _, rfl, b, 0, 1, 1, true, rfl, .inl rfl⟩
    · simp [stCells, hb]
    · exact Byt_of (a := [c]) (ro := false) (put_self hb) (.inl rfl)
  · have h1 : ¬ 1 + a.length ≤ 1 := by omega
    have h2 : (1 + a.length) * 1 ≤ maxBytes := by unfold maxBytes; omega
    rw [if_neg h1, if_pos h2]
    simp only [ldCells, hb, Nat.one_mul, Nat.zero_add, List.length_cons, List.length_nil, Nat.le_refl, if_true, List.drop_zero, List.take_succ_cons, List.take_zero]
    refine ⟨_, _, rfl, ?_, (Fr.alloc m _).any _, rfl, m.next, 0, 1, _, _, by rw [Nat.add_comm], .inr (Nat.le_refl _)⟩
    rw [show 1 + a.length = (c :: a).length by simp; omega]
    exact Byt_of (a := c :: a) (ro := false) (lay_self _ _) (.inl rfl)
end
theorem Byt_frame {m m' : Mem} {s : AV} {a : List UInt8} {S : List Nat} (h : Byt m s a) (hf : Fr m m' S) (hd : ∀ n o k l cap ex, s = .sl (some ⟨n, o⟩) k l cap ex → n ∉ S) : Byt m' s a := by
  rcases h with ⟨h0, h | ⟨b, o, sz, cap, ex, ro, cs, h1, h2, h3, h4⟩⟩
  · exact ⟨h0, .inl h⟩
  · exact ⟨h0, .inr ⟨b, o, sz, cap, ex, ro, cs, h1, h2, hf.get h3 (hd _ _ _ _ _ _ h1), h4⟩⟩
theorem Byt_lt {m : Mem} {s : AV} {a : List UInt8} (h : Byt m s a) {n o k l cap : Nat} {ex : Bool} (hs : s = .sl (some ⟨n, o⟩) k l cap ex) : n < m.next := by
  rcases h with ⟨_, ⟨_, _, _, _, h1⟩ | ⟨b, o', sz, cap', ex', ro, cs, h1, _, h3, _⟩⟩
  · rw [hs] at h1; cases h1
  · rw [hs] at h1; cases h1; exact Mem.get_lt h3
section
variable {m : Mem} {s out : AV} {raw : List EntS}
theorem ent2 {rows : List (List AV)} {rb : Option Nat} {e : EntS} {bx : Nat} (t0 t1 t2 t3 t10 : AV) (hb : m.get bx = some (.cells e.cells false)) (he : e.sl.one = true) (hr : TRow 5 m out rows rb) (hl : rows.length < 1000) :
    ∃ out' m' nb, D41.gor 188418 [t0, t1, t2, t3, out, t10, .ptr (some ⟨bx, 0⟩)] m = D41.gor 188419 [t0, t1, t2, t3, out', t10] m' ∧ TRow 5 m' out' (rows ++ [e.cells]) (some nb) ∧ m.next ≤ nb ∧ Fr m m' rb.toList := by
  have h1 : e.cells.all AV.one = true := by simp only [EntS.cells, List.all_cons, List.all_nil, he, Bool.and_true]; rfl
  have hld : ldN m (.ptr (some ⟨bx, 0⟩)) 5 = some (.agg e.cells) := by rw [ldN_at hb (by simp only [ec]; omega)]; rfl
  have hf : Fr m (m.lay (.cells e.cells false)) [] := (Fr.refl m).lay _
  have hbs := bs_agg (n := 5) (zs := [.int .i64 0, .int .u64 0, .int .u64 0, .sl none 0 0 0 true, .int .i64 0]) h1 rfl rfl
  obtain ⟨s', m', a1, a2, a3, a4⟩ := append_trow (n := 5) (w := 56) (by omega) (hr.frame hf (by simp)) (xb := m.next) (new := e.cells) (lay_self _ _) rfl h1 (by unfold maxBytes; omega)
  refine ⟨s', m', _, ?_, a2, Nat.le_succ _, ?_⟩
  · rw [g46_2_is]
    simp only [G46_2, Int.ofNat_eq_natCast, Int.cast_ofNat_Int, q1, apE, w_g46_2, hld, hbs, a1]
  · exact hf.trans a4 (by simp) (by simp +contextual)
theorem add_u64 {x : Int} (h0 : 0 ≤ x) (h1 : x < 1000) : binA Tryz.prog .add 22 (.int .u64 x) (.int .u64 1) = some (.int .u64 (x + 1)) := by rw [bin_add, wrap_u64 (by omega) (by omega)]
theorem ent1 (h : Raws m s raw) {i : Nat} (hi : i < raw.length) {ix : Int} (h0 : 0 ≤ ix) (h1 : ix < 1000) (T : Int) (out N : AV) :
    ∃ M e bx T', D41.gor 188417 [.int .u64 ix, .int .u64 T, s, N, out, .int .i64 (i : Int)] m = D41.gor 188418 [.int .u64 (ix + 1), .int .u64 T', s, N, out, .int .i64 (i : Int), .ptr (some ⟨bx, 0⟩)] M ∧ Fr m M [] ∧ M.get bx = some (.cells e.cells false) ∧ EOk M e ∧
      (∀ n o k l cap ex, e.sl = .sl (some ⟨n, o⟩) k l cap ex → m.next ≤ n) ∧ e.index = ix + 1 := by
  obtain ⟨b, o, _, e2, e3⟩ := Raws_at h hi
  have e30 := e3 0 (by omega)
  have e34 := e3 4 (by omega)
  have e33 := e3 3 (by omega)
  have e31 := e3 1 (by omega)
  simp only [Nat.add_zero] at e30
  have ad := add_u64 h0 h1
  have hr := h.ok _ (List.getElem_mem hi)
  generalize raw[i] = r at *
  obtain ⟨K, hK⟩ : ∃ K, K = pickF r.conf 3 := ⟨_, rfl⟩
  obtain ⟨T1, hT⟩ : ∃ T1, T1 = IntKind.u64.wrap (T + IntKind.u64.wrap (IntKind.i64.wrap ((pickF r.kind 8).tdiv 6))) := ⟨_, rfl⟩
  obtain ⟨X, hX⟩ : ∃ X : Int, X = if (1 : Int) < T1 then T1 else 1 := ⟨_, rfl⟩
  have nb1 : (b = m.next) = False := by simp; omega
  have nb2 : (b = m.next + 1) = False := by simp; omega
  rw [g46_1_is]
  have st1 : over [.int .i64 0, .int .u64 0, .int .u64 0, .sl none 0 0 0 true, .int .i64 0] 0 (.agg [.int .i64 K, .int .u64 X, .int .u64 (ix + 1), .sl none 0 0 0 true, .int .i64 0]) 5 = some [.int .i64 K, .int .u64 X, .int .u64 (ix + 1), .sl none 0 0 0 true, .int .i64 0] := rfl
  have nil0 : ∀ M, Byt M (.sl none 0 0 0 true) [] := fun M => ⟨by simp, .inl ⟨rfl, _, _, _, rfl⟩⟩
  have hf0 : Fr m (m.lay (.cells [.int .i64 K, .int .u64 X, .int .u64 (ix + 1), .sl none 0 0 0 true, .int .i64 0] false)) [] := (Fr.refl m).lay _
  by_cases k1 : K = 1
  · subst k1
    have hf1 := hf0.lay (.cells [.int .u8 1] false)
    obtain ⟨kk, hkk⟩ : ∃ kk : Nat, kk = min r.data.length 30 := ⟨_, rfl⟩
    have hmin : (if (30 : Int) < (r.data.length : Int) then (30 : Int) else (r.data.length : Int)) = (kk : Int) := by split <;> omega
    obtain ⟨s', u1, u2⟩ := Byt_upTo hr.1 hr.2.1 (k := kk) (by omega)
    obtain ⟨s2, m2, v1, v2, v3, v4, n, o', k', cap, ex, v5, v6⟩ := append_byt (Byt_frame0 u2 hf1) (by rw [List.length_take]; omega) (c := 1) (b := m.next + 1) (lay_self _ _)
    have hg : m2.get m.next = some (.cells [.int .i64 1, .int .u64 X, .int .u64 (ix + 1), .sl none 0 0 0 true, .int .i64 0] false) := v3.get (by simp [Mem.get_lay, Mem.next_lay]) (by simp)
    have hst : stV m2 (.ptr (some ⟨m.next, 3⟩)) s2 1 = some (m2.put m.next (some (.cells [.int .i64 1, .int .u64 X, .int .u64 (ix + 1), s2, .int .i64 0] false))) := stV_at hg (cells1 v4) rfl (by simp)
    have hf2 : Fr m m2 [] := hf1.step v3 (by simp)
    have hf3 : Fr m2 (m2.put m.next (some (.cells [.int .i64 1, .int .u64 X, .int .u64 (ix + 1), s2, .int .i64 0] false))) [m.next] := Fr.put _ _ _
    refine ⟨m2.put m.next (some (.cells [.int .i64 1, .int .u64 X, .int .u64 (ix + 1), s2, .int .i64 0] false)), ⟨1, X, ix + 1, s2, 0, 1 :: r.data.take kk⟩, m.next, T1, ?_, hf2.step hf3 (by simp), put_self hg, ⟨Byt_frame v2 hf3 (fun n2 o2 k2 l2 c2 x2 e => ?_), by simp; omega, v4⟩, fun n2 o2 k2 l2 c2 x2 e => ?_, rfl⟩
    · simp only [apE, Option.bind_some] at v1
      have one0 : bsA 1 1 [AV.int .u8 0] [(0, AV.int .u8 1)] = some (.cells [.int .u8 1] false, fun b => .sl (some ⟨b, 0⟩) 1 1 1 true) := bs_one1 rfl
      simp only [G46_1, Int.ofNat_eq_natCast, Int.cast_ofNat_Int, p2, p1, q1, pB, apE, fillA, AV.cells, Nat.reduceAdd, Nat.reduceLeDiff, condA, w_g46_1, e2, e30, e33, e34, ec, pick_is _ _ (show (8 : Int) ≠ 0 by decide), pick_is _ _ (show (3 : Int) ≠ 0 by decide), ← hK, bin_quo _ _ _ _ (show (6 : Int) ≠ 0 by decide), ad, maxA, ← hT, ← hX, lcl, st1, decide_true, one0, nb1, nb2, Byt_len hr.1, minA, hmin, u1, v1, hst]
    · rw [v5] at e; cases e; simp only [List.mem_singleton]
      rcases v6 with rfl | v6
      · omega
      · simp only [Mem.next_lay] at v6; omega
    · rw [v5] at e; cases e
      rcases v6 with rfl | v6
      · omega
      · simp only [Mem.next_lay] at v6; omega
  by_cases k2 : K = 2
  · subst k2
    obtain ⟨C, hC⟩ : ∃ C, C = IntKind.i64.wrap (2 * IntKind.i64.wrap (1 + pickF (IntKind.i64.wrap (r.term.tmod 200)) 31)) := ⟨_, rfl⟩
    refine ⟨m.lay (.cells [.int .i64 2, .int .u64 X, .int .u64 (ix + 1), .sl none 0 0 0 true, .int .i64 C] false), ⟨2, X, ix + 1, .sl none 0 0 0 true, C, []⟩, m.next, T1, ?_, (Fr.refl m).lay _, lay_self _ _, ⟨nil0 _, by simp, rfl⟩, nofun, rfl⟩
    have st2 : over [.int .i64 2, .int .u64 X, .int .u64 (ix + 1), .sl none 0 0 0 true, .int .i64 0] 4 (.int .i64 C) 1 = some [.int .i64 2, .int .u64 X, .int .u64 (ix + 1), .sl none 0 0 0 true, .int .i64 C] := rfl
    simp only [G46_1, Int.ofNat_eq_natCast, Int.cast_ofNat_Int, p2, p1, q1, pB, apE, fillA, AV.cells, Nat.reduceAdd, Nat.reduceLeDiff, condA, w_g46_1, e2, e30, e31, e34, ec, pick_is _ _ (show (8 : Int) ≠ 0 by decide), pick_is _ _ (show (3 : Int) ≠ 0 by decide), pick_is _ _ (show (31 : Int) ≠ 0 by decide), ← hK, bin_quo _ _ _ _ (show (6 : Int) ≠ 0 by decide), bin_rem _ _ _ _ (show (200 : Int) ≠ 0 by decide), ad, maxA, ← hT, ← hX, ← hC, lcl, st1, st2, nb1, decide_true, show ¬ (2 : Int) = 1 by decide, decide_false]
  · refine ⟨m.lay (.cells [.int .i64 K, .int .u64 X, .int .u64 (ix + 1), .sl none 0 0 0 true, .int .i64 0] false), ⟨K, X, ix + 1, .sl none 0 0 0 true, 0, []⟩, m.next, T1, ?_, hf0, lay_self _ _, ⟨nil0 _, by simp, rfl⟩, nofun, rfl⟩
    simp only [G46_1, Int.ofNat_eq_natCast, Int.cast_ofNat_Int, p2, p1, q1, pB, apE, fillA, AV.cells, Nat.reduceAdd, Nat.reduceLeDiff, condA, w_g46_1, e2, e30, e34, ec, pick_is _ _ (show (8 : Int) ≠ 0 by decide), pick_is _ _ (show (3 : Int) ≠ 0 by decide), ← hK, bin_quo _ _ _ _ (show (6 : Int) ≠ 0 by decide), ad, maxA, ← hT, ← hX, lcl, st1, k1, k2, decide_false]
end
end Go.Proofs.YtolmealocdgdhaaGreat
end
section
namespace Go.Proofs.YtolmealocdgdhaaGreat
open Go Go.Abs
set_option maxRecDepth 20000
set_option maxHeartbeats 400000
theorem EOk_frame {m m' : Mem} {e : EntS} {S : List Nat} (h : EOk m e) (hf : Fr m m' S) (hd : ∀ n o k l cap ex, e.sl = .sl (some ⟨n, o⟩) k l cap ex → n ∉ S) : EOk m' e := ⟨Byt_frame h.1 hf hd, h.2⟩
def slGe (N : Nat) (s : AV) : Prop := ∀ n o k l cap ex, s = .sl (some ⟨n, o⟩) k l cap ex → N ≤ n
theorem Ents_frame {m m' : Mem} {s : AV} {l : List EntS} {S : List Nat} {N : Nat} (h : Ents m s l) (hf : Fr m m' S) (hS : ∀ c ∈ S, c < N) (hs : slGe N s) (hl : ∀ e ∈ l, slGe N e.sl) : Ents m' s l := by
  have key : ∀ n, N ≤ n → n ∉ S := fun n h1 h2 => by have := hS n h2; omega
  refine ⟨?_, fun e he => EOk_frame (h.ok e he) hf fun n o k l cap ex e' => key n (hl e he n o k l cap ex e')⟩
  rcases h.row with ⟨h0, h | ⟨b, o, sz, cap, ex, ro, cs, h1, h2, h3, h4⟩⟩
  · exact ⟨h0, .inl h⟩
  · exact ⟨h0, .inr ⟨b, o, sz, cap, ex, ro, cs, h1, h2, hf.get h3 (key b (hs _ _ _ _ _ _ h1)), h4⟩⟩
theorem TRow_ge {n : Nat} {m : Mem} {s : AV} {l : List (List AV)} {rb : Option Nat} {N : Nat} (h : TRow n m s l rb) (hr : ∀ c, rb = some c → N ≤ c) : slGe N s := by
  intro b o k l' cap ex e
  rcases h with ⟨_, (⟨_, _, sz, ex', h1⟩ | ⟨b', _, h0, h1, _⟩) | ⟨b', h0, h1, _⟩⟩
  · rw [h1] at e; cases e
  · rw [h1] at e; cases e; exact hr _ h0
  · rw [h1] at e; cases e; exact hr _ h0
section
variable {m0 : Mem} {s : AV} {raw : List EntS}
theorem ents_go (h : Raws m0 s raw) {base : Int} (hb0 : 0 ≤ base) (hb1 : base < 100) : ∀ (k i : Nat) (m : Mem) (out : AV) (T : Int) (es : List EntS) (rb : Option Nat), i + k = min raw.length 12 → es.length = i → Fr m0 m [] → TRow 5 m out (es.map EntS.cells) rb → (∀ c, rb = some c → m0.next ≤ c) →
    (∀ e ∈ es, EOk m e ∧ ∀ n o k l cap ex, e.sl = .sl (some ⟨n, o⟩) k l cap ex → rb ≠ some n ∧ m0.next ≤ n) → es.map (·.index) = (List.range es.length).map (fun j : Nat => base + (j : Int) + 1) →
    ∃ m' s' es', D41.gor 188416 [.int .u64 (base + (i : Int)), .int .u64 T, s, .int .i64 12, out, .int .i64 (i : Int)] m = some (s', m') ∧ Ents m' s' es' ∧ es'.length ≤ 12 ∧ es'.map (·.index) = (List.range es'.length).map (fun j : Nat => base + (j : Int) + 1) ∧ Fr m0 m' [] ∧ slGe m0.next s' ∧ ∀ e ∈ es', slGe m0.next e.sl
  | 0, i, m, out, T, es, rb, hi, hl, hf, hr, hrb, ho, hx => by
    refine ⟨m, out, es, ?_, ⟨hr.v, fun e he => (ho e he).1⟩, by omega, hx, hf, TRow_ge hr hrb, fun e he n o k l cap ex e' => ((ho e he).2 n o k l cap ex e').2⟩
    rw [g46_0_is]
    by_cases c1 : (i : Int) < (raw.length : Int)
    · have c2 : ¬ (i : Int) < 12 := by omega
      simp only [G46_0, p1, p2, condA, w_g46_0, Raws_len h, c1, c2, decide_true, decide_false, ifV, g46_4_is (H := H41), G46_4, w_g46_4]
    · simp only [G46_0, p1, p2, condA, w_g46_0, Raws_len h, c1, decide_false, ifV, g46_4_is (H := H41), G46_4, w_g46_4]
  | k + 1, i, m, out, T, es, rb, hi, hl, hf, hr, hrb, ho, hx => by
    have c1 : (i : Int) < (raw.length : Int) := by omega
    have c2 : (i : Int) < 12 := by omega
    have h' := h.frame0 hf
    obtain ⟨M, e, bx, T', a1, a2, a3, a4, a5, a6⟩ := ent1 h' (i := i) (by omega) (ix := base + (i : Int)) (by omega) (by omega) T out (.int .i64 12)
    have hrl : ∀ c, rb = some c → c < m.next := fun c e => by subst e; exact hr.lt
    have hr2 := hr.frame a2 (by simp)
    obtain ⟨out', m', nb, b1, b2, b3, b4⟩ := ent2 (.int .u64 (base + (i : Int) + 1)) (.int .u64 T') s (.int .i64 12) (.int .i64 (i : Int)) a3 a4.2.2 hr2 (by rw [List.length_map]; omega)
    have hfm : Fr m m' rb.toList := (a2.any rb.toList).step b4 (fun c hc => .inl hc)
    have hf' : Fr m0 m' [] := hf.step hfm (fun c hc => .inr (hrb c (by simpa using hc)))
    have e1 : base + (i : Int) + 1 = base + ((i + 1 : Nat) : Int) := by omega
    have rl : es.map EntS.cells ++ [e.cells] = (es ++ [e]).map EntS.cells := by simp
    rw [rl] at b2
    obtain ⟨m2, s2, es2, r1, r2⟩ := ents_go h hb0 hb1 k (i + 1) m' out' T' (es ++ [e]) (some nb) (by omega) (by simp; omega) hf' b2 (fun c hc => by cases hc; have := hf.next; have := a2.next; omega) (fun x hx' => by
      rcases List.mem_append.1 hx' with hx' | hx'
      · obtain ⟨o1, o2⟩ := ho x hx'
        have o3 := o1.frame0 a2
        refine ⟨EOk_frame o3 b4 (fun n o k l cap ex e' hm => (o2 n o k l cap ex e').1 (by simpa using hm)), fun n o k l cap ex e' => ⟨fun hn => ?_, (o2 n o k l cap ex e').2⟩⟩
        have := Byt_lt o1.1 e'
        cases hn
        have := a2.next
        omega
      · rw [List.mem_singleton] at hx'
        subst hx'
        refine ⟨EOk_frame a4 b4 (fun n o k l cap ex e' hm => ?_), fun n o k l cap ex e' => ⟨fun hn => ?_, ?_⟩⟩
        · have := a5 n o k l cap ex e'
          have := hrl n (by simpa using hm)
          omega
        · have := Byt_lt a4.1 e'
          cases hn
          omega
        · have := a5 n o k l cap ex e'
          have := hf.next
          omega) (by
      rw [List.map_append, hx, List.length_append, List.length_singleton, List.range_succ, List.map_append]
      congr 1
      simp only [List.map_cons, List.map_nil, a6, hl])
    refine ⟨m2, s2, es2, ?_, r2⟩
    have ad := add1 (i := i) (n := 12) (by omega) (by omega)
    rw [e1] at b1 a1
    rw [g46_0_is]
    simp only [G46_0, Int.ofNat_eq_natCast, Int.cast_ofNat_Int, p1, p2, condA, w_g46_0, Raws_len h, c1, c2, decide_true, ifV, a1, b1, g46_3_is (H := H41), G46_3, w_g46_3, ad, r1]
theorem nodup_range (base : Int) (n : Nat) : ((List.range n).map (fun j : Nat => base + (j : Int) + 1)).Nodup := by
  refine List.Pairwise.map _ (fun a b h e => h ?_) List.nodup_range
  omega
theorem view_is (h : Raws m0 s raw) {x : Int} (h0 : 0 ≤ x) (p : Bool) : ∃ m' s' es, run E41 (.fn 12) [s, .int .u64 x, .bool p] m0 = some (.agg (vw p s'), m') ∧ Ents m' s' es ∧ es.length ≤ 12 ∧ (es.map (·.index)).Nodup ∧ Fr m0 m' [] ∧ slGe m0.next s' ∧ ∀ e ∈ es, slGe m0.next e.sl := by
  have hx : 0 ≤ x.tmod 5 ∧ x.tmod 5 < 5 := ⟨Int.tmod_nonneg _ h0, Int.tmod_lt_of_pos _ (by decide)⟩
  have hf : Fr m0 (m0.lay (.cells (vw false (.sl none 0 0 0 true)) false)) [] := (Fr.refl m0).lay _
  obtain ⟨m', s', es, r1, r2, r3, r4, r5, r6, r7⟩ := ents_go (h.frame0 hf) hx.1 (by omega) (min raw.length 12) 0 _ (.sl none 0 0 0 true) 1 [] none (by omega) rfl (Fr.refl _) (TRow.nil 5 _ 0 true) nofun (by simp) rfl
  obtain ⟨sa, ssz, scap, sex, hs'⟩ := r2.row.len
  generalize (es.map EntS.cells).length = sn at hs'
  subst hs'
  have hf' : Fr m0 m' [] := hf.step0 r5
  have hg := r5.get (lay_self m0 (.cells (vw false (.sl none 0 0 0 true)) false)) (by simp)
  have hone := r2.one
  have hc : (AV.agg (vw p (.sl sa ssz sn scap sex))).cells = some (vw p (.sl sa ssz sn scap sex)) := agg_cells (by simp only [List.all_cons, List.all_nil, hone, Bool.and_true]; rfl)
  have hst : stV m' (.ptr (some ⟨m0.next, 0⟩)) (.agg (vw p (.sl sa ssz sn scap sex))) 22 = some (m'.put m0.next (some (.cells (vw p (.sl sa ssz sn scap sex)) false))) := stV_at hg hc rfl (by simp)
  have hld : ldN (m'.put m0.next (some (.cells (vw p (.sl sa ssz sn scap sex)) false))) (.ptr (some ⟨m0.next, 0⟩)) 22 = some (.agg (vw p (.sl sa ssz sn scap sex))) := by
    rw [ldN_at (put_self hg) (by simp)]; rfl
  have hfp : Fr m' (m'.put m0.next (some (.cells (vw p (.sl sa ssz sn scap sex)) false))) [m0.next] := Fr.put _ _ _
  rw [show ((0 : Nat) : Int) = 0 from rfl, Int.add_zero] at r1
  refine ⟨_, _, es, ?_, Ents_frame r2 hfp (N := m0.next + 1) (by simp) r6 r7, r3, by rw [r4]; exact nodup_range _ _, hf'.step hfp (by simp), fun n o k l cap ex e => ?_, fun e' he n o k l cap ex e => ?_⟩
  · simp only [f12_is (H := H41) h41_12, F12, Int.ofNat_eq_natCast, Int.cast_ofNat_Int, pB, p2, fillA, AV.cells, Nat.reduceAdd, Nat.reduceLeDiff, resA, tupA, w_f12, bin_rem _ _ _ _ (show (5 : Int) ≠ 0 by decide), f46_is (H := H41) h41_46, F46, w_f46, r1, lcl, hst, hld]
  · have := r6 n o k l cap ex e
    simp only [Mem.next_lay] at this; omega
  · have := r7 e' he n o k l cap ex e
    simp only [Mem.next_lay] at this; omega
end
end Go.Proofs.YtolmealocdgdhaaGreat
end
section
namespace Go.Proofs.YtolmealocdgdhaaGreat
open Go Go.Abs
set_option maxRecDepth 20000
set_option maxHeartbeats 400000
theorem h41_15 : H41 15 = none := hfree41 15 (by decide) (by decide)
def vup (x : List AV) : Bool := match x[0]? with | some (AV.bool b) => b | _ => false
def vrole (x : List AV) : Int := match x[2]? with | some (AV.int _ n) => n | _ => 0
def vterm (x : List AV) : Int := match x[4]? with | some (AV.int _ n) => n | _ => 0
structure VOk (x : List AV) : Prop where
  len : x.length = 22
  one : x.all AV.one = true
  c0 : x[0]? = some (.bool (vup x))
  c2 : x[2]? = some (.int .i64 (vrole x))
  c4 : x[4]? = some (.int .u64 (vterm x))
def leads (x : List AV) : Bool := vup x && decide (vrole x = 2)
def termsOf (l : List (List AV)) : List Int := (l.filter leads).map vterm
structure Vs (m : Mem) (s : AV) (l : List (List AV)) : Prop where
  row : VRow 22 m s l
  ok : ∀ x ∈ l, VOk x
section
variable {m m' : Mem} {s : AV} {l : List (List AV)}
theorem Vs.frame0 (h : Vs m s l) (hf : Fr m m' []) : Vs m' s l := ⟨h.row.frame0 hf, h.ok⟩
theorem hu36 : Tryz.prog.underlying 36 = some (.slice 32) := by kernel_rfl
theorem hs36 : szT Tryz.prog 32 = some 22 := by kernel_rfl
theorem Vs_len (h : Vs m s l) : lenT Tryz.prog 36 s = some (.int .i64 (l.length : Int)) := h.row.lenT hu36
theorem Vs_at (h : Vs m s l) {i : Nat} (hi : i < l.length) : ∃ b o, b < m.next ∧ indexAddrA Tryz.prog 36 s (.int .i64 (i : Int)) = some (.ptr (some ⟨b, o⟩)) ∧ (∀ k, k < 22 → ld1 m (.ptr (some ⟨b, o + k⟩)) = l[i][k]?) ∧ ldN m (.ptr (some ⟨b, o⟩)) 22 = some (.agg l[i]) := by
  obtain ⟨b, o, e1, e2, e3, _, e4⟩ := h.row.ixT hu36 hs36 hi
  exact ⟨b, o, e1, e2 _, e3, e4⟩
theorem over_view {x : List AV} (h : VOk x) {zs : List AV} (hz : zs.length = 22) : over zs 0 (.agg x) 22 = some x := by
  unfold over
  rw [agg_cells h.one]
  simp only [h.len, if_true, hz, Nat.zero_add, Nat.le_refl, List.take_zero, List.nil_append]
  rw [List.drop_of_length_le (by omega), List.append_nil]
theorem termsOf_snoc (l : List (List AV)) (x : List AV) : termsOf (l ++ [x]) = termsOf l ++ (if leads x = true then [vterm x] else []) := by
  unfold termsOf
  rw [List.filter_append, List.map_append]
  by_cases h : leads x = true <;> simp [h]
theorem termsOf_cons (l : List (List AV)) (x : List AV) : termsOf (x :: l) = (if leads x = true then [vterm x] else []) ++ termsOf l := by
  unfold termsOf
  by_cases h : leads x = true <;> simp [h]
theorem leadIn (hl : l.length < 9223372036854775807) {i : Nat} (hi : i < l.length) : ∀ (j k : Nat) (m : Mem), k + j = i → Vs m s l → ∃ m', D41.gor 61442 [s, .int .i64 (i : Int), .int .i64 (k : Int)] m = (if (leads l[i] && decide (vterm l[i] ∈ termsOf ((l.take i).drop k))) = true then some (.bool false, m') else D41.gor 61445 [s, .int .i64 (i : Int)] m') ∧ Fr m m' []
  | 0, k, m, h, hv => by
    have c : ¬ (k : Int) < (i : Int) := by omega
    refine ⟨m, ?_, Fr.refl m⟩
    rw [List.drop_of_length_le (by rw [List.length_take]; omega), g15_2_is]
    simp only [G15_2, p2, condA, w_g15_2, c, decide_false]
    simp [termsOf]
  | j + 1, k, m, h, hv => by
    have c : (k : Int) < (i : Int) := by omega
    have hk : k < l.length := by omega
    obtain ⟨b1, o1, _, e1, _, e2⟩ := Vs_at hv hi
    obtain ⟨b2, o2, _, g1, _, g2⟩ := Vs_at (hv.frame0 (((Fr.refl m).lay (.cells l[i] false)))) hk
    have ok1 := hv.ok _ (List.getElem_mem hi)
    have ok2 := hv.ok _ (List.getElem_mem hk)
    have ad : binA Tryz.prog .add 3 (.int .i64 (k : Int)) (.int .i64 1) = some (.int .i64 ((k + 1 : Nat) : Int)) := add_i64 (by omega) (by omega) (by omega)
    have hf : Fr m ((m.lay (.cells l[i] false)).lay (.cells l[k] false)) [] := ((Fr.refl m).lay _).lay _
    obtain ⟨m', r1, r2⟩ := leadIn hl hi j (k + 1) _ (by omega) (hv.frame0 hf)
    have n4 : D41.gor 61444 [s, .int .i64 (i : Int), .int .i64 (k : Int)] ((m.lay (.cells l[i] false)).lay (.cells l[k] false)) = D41.gor 61442 [s, .int .i64 (i : Int), .int .i64 ((k + 1 : Nat) : Int)] ((m.lay (.cells l[i] false)).lay (.cells l[k] false)) := by
      rw [g15_4_is]; simp only [G15_4, Int.ofNat_eq_natCast, Int.cast_ofNat_Int, p2, w_g15_4, ad]
    have hd : (l.take i).drop k = l[k] :: (l.take i).drop (k + 1) := by
      rw [List.drop_eq_getElem_cons (by rw [List.length_take]; omega), List.getElem_take]
    rw [hd, termsOf_cons]
    have ov1 := fun z (hz : z.length = 22) => over_view ok1 (zs := z) hz
    generalize l[i] = x at *
    generalize l[k] = y at *
    rw [g15_2_is]
    simp only [G15_2, p2, condA, w_g15_2, c, decide_true]
    rw [g15_3_is]
    simp only [G15_3, Int.ofNat_eq_natCast, Int.cast_ofNat_Int, p2, q1, pB, p1, condA, Nat.reduceAdd, w_g15_3, e1, e2, g1, g2, lms, ift, iff', oms, over_view ok1 (zs := [_, _, _, _, _, _, _, _, _, _, _, _, _, _, _, _, _, _, _, _, _, _]) rfl, over_view ok2 (zs := [_, _, _, _, _, _, _, _, _, _, _, _, _, _, _, _, _, _, _, _, _, _]) rfl, ok1.c0, ok2.c0, ok1.c2, ok2.c2, ok1.c4, ok2.c4, n4, r1, ifV]
    by_cases hc : (vup x && (vup y && (decide (vrole x = 2) && (decide (vrole y = 2) && decide (vterm x = vterm y))))) = true
    · simp only [Bool.and_eq_true, decide_eq_true_eq] at hc
      obtain ⟨h1, h2, h3, h4, h5⟩ := hc
      refine ⟨_, ?_, hf⟩
      simp [leads, h1, h2, h3, h4, h5]
    · refine ⟨m', ?_, hf.step0 r2⟩
      cases h1 : vup x with
      | false => simp [leads, h1]
      | true =>
        cases h2 : vup y with
        | false => simp [leads, h1, h2]
        | true =>
          by_cases h3 : vrole x = 2
          · by_cases h4 : vrole y = 2
            · have h5 : ¬ vterm x = vterm y := fun h => hc (by simp [h1, h2, h3, h4, h])
              simp [leads, h1, h2, h3, h4, h5]
            · simp [leads, h1, h2, h3, h4]
          · simp [leads, h1, h2, h3]
theorem leadOut (hl : l.length < 9223372036854775807) : ∀ (j i : Nat) (m : Mem), i + j = l.length → Vs m s l → (termsOf (l.take i)).Nodup → Res m (D41.gor 61440 [s, .int .i64 (i : Int)] m) (.bool (decide (termsOf l).Nodup))
  | 0, i, m, h, hv, nd => by
    have c : ¬ (i : Int) < (l.length : Int) := by omega
    rw [List.take_of_length_le (by omega)] at nd
    rw [g15_0_is]
    simp only [G15_0, p1, p2, condA, w_g15_0, Vs_len hv, c, decide_false, g15_6_is (H := H41), G15_6, w_g15_6]
    exact Res.eq (Fr.refl m) (by rw [decide_eq_true nd])
  | j + 1, i, m, h, hv, nd => by
    have c : (i : Int) < (l.length : Int) := by omega
    have hi : i < l.length := by omega
    obtain ⟨m', r1, r2⟩ := leadIn hl hi i 0 m (by omega) hv
    rw [List.drop_zero, show ((0 : Nat) : Int) = 0 from rfl] at r1
    have ad : binA Tryz.prog .add 3 (.int .i64 (i : Int)) (.int .i64 1) = some (.int .i64 ((i + 1 : Nat) : Int)) := add_i64 (by omega) (by omega) (by omega)
    have ht : termsOf (l.take (i + 1)) = termsOf (l.take i) ++ (if leads l[i] = true then [vterm l[i]] else []) := by
      rw [List.take_add_one, List.getElem?_eq_getElem hi, ← termsOf_snoc]; rfl
    rw [g15_0_is]
    simp only [G15_0, Int.ofNat_eq_natCast, Int.cast_ofNat_Int, p1, p2, condA, w_g15_0, Vs_len hv, c, decide_true, g15_1_is (H := H41), G15_1, w_g15_1, r1]
    by_cases hc : (leads l[i] && decide (vterm l[i] ∈ termsOf (l.take i))) = true
    · rw [if_pos hc]
      simp only [Bool.and_eq_true, decide_eq_true_eq] at hc
      refine ⟨m', ?_, r2⟩
      have hn : ¬ (termsOf l).Nodup := fun hn => by
        have e : termsOf l = termsOf (l.take (i + 1)) ++ termsOf (l.drop (i + 1)) := by
          rw [← List.take_append_drop (i + 1) l]
          unfold termsOf
          rw [List.filter_append, List.map_append]
          simp
        rw [e, ht, if_pos hc.1] at hn
        have := (List.nodup_append.1 (List.nodup_append.1 hn).1).2.2 _ hc.2 _ (List.mem_singleton.2 rfl)
        exact this rfl
      rw [decide_eq_false hn]
    · rw [if_neg hc]
      have nd' : (termsOf (l.take (i + 1))).Nodup := by
        rw [ht]
        by_cases hx : leads l[i] = true
        · rw [if_pos hx]
          simp only [hx, Bool.true_and, decide_eq_true_eq] at hc
          refine List.nodup_append.2 ⟨nd, by simp, fun a ha b hb => ?_⟩
          rw [List.mem_singleton] at hb
          subst hb
          exact fun e => hc (e ▸ ha)
        · rw [if_neg hx, List.append_nil]; exact nd
      obtain ⟨m2, q1, q2⟩ := leadOut hl j (i + 1) m' (by omega) (hv.frame0 r2) nd'
      refine ⟨m2, ?_, r2.step0 q2⟩
      rw [g15_5_is]
      simp only [G15_5, Int.ofNat_eq_natCast, Int.cast_ofNat_Int, p2, w_g15_5, ad, q1]
theorem leadr_is {m : Mem} (hl : l.length < 9223372036854775807) (hv : Vs m s l) : Res m (run E41 (.fn 15) [s] m) (.bool (decide (termsOf l).Nodup)) := by
  have := leadOut hl l.length 0 m (by omega) hv (by simp [termsOf])
  rw [show ((0 : Nat) : Int) = 0 from rfl] at this
  simp only [f15_is (H := H41) h41_15, F15, Int.ofNat_eq_natCast, Int.cast_ofNat_Int, w_f15]
  exact this
end
end Go.Proofs.YtolmealocdgdhaaGreat
end
section
namespace Go.Proofs.YtolmealocdgdhaaGreat
open Go Go.Abs
set_option maxRecDepth 20000
set_option maxHeartbeats 400000
theorem h41_10 : H41 10 = none := hfree41 10 (by decide) (by decide)
theorem h41_43 : H41 43 = none := hfree41 43 (by decide) (by decide)
theorem h41_44 : H41 44 = none := hfree41 44 (by decide) (by decide)
theorem h41_91 : H41 91 = none := hfree41 91 (by decide) (by decide)
noncomputable def y10_0 (b : Nat) : List AV → CM := apS fun u0 => apS fun t2 => apS fun t3 => apS fun _ => apS fun _ => apS fun _ => ap0 <|
 CM.al (some (.cells [(.bool false), (.int .i64 0), (.int .i64 0), (.int .i64 0), (.int .u64 0), (.int .i64 0), (.int .u64 0), (.int .u64 0), (.int .i64 0), (.int .u64 0), (.int .u64 0), (.int .i64 0), (.int .u64 0), (.int .i64 0), (.int .i64 0), (.int .i64 0), (.int .i64 0), (.sl none 0 0 0 true), (.int .u64 0), (.sl none 0 0 0 true), (.int .i64 0), (.int .i64 0)] false, pB)) fun x0 =>
 CM.st (fun m => stV m x0 u0 22) <|
 CM.st (beginA (.rd b)) <|
 CM.rm (q1 (loadA Tryz.prog 102) t3 ) fun x2 =>
 CM.pu (p1 (fun a => fieldAddrA Tryz.prog 32 a 1) x0) fun x3 =>
 CM.pu (p1 (fun a => fieldAddrA Tryz.prog 28 a 3) x3) fun x4 =>
 CM.pu (p1 (fun a => fieldAddrA Tryz.prog 24 a 0) x4) fun x5 =>
 CM.rm (q1 (loadA Tryz.prog 22) x5 ) fun x6 =>
 CM.rm (q2 (fun a k => lookupA Tryz.prog 102 a k false) x2 x6 ) fun x7 =>
 CM.pu (p2 (binA Tryz.prog .add 3) x7 (.int .i64 1)) fun x8 =>
 CM.st (mapPut Tryz.prog 102 x2 x6 x8) <|
 CM.rm (q1 (loadA Tryz.prog 102) t3 ) fun x10 =>
 CM.pu (p1 (fun a => fieldAddrA Tryz.prog 32 a 1) x0) fun x11 =>
 CM.pu (p1 (fun a => fieldAddrA Tryz.prog 28 a 3) x11) fun x12 =>
 CM.pu (p1 (fun a => fieldAddrA Tryz.prog 24 a 0) x12) fun x13 =>
 CM.rm (q1 (loadA Tryz.prog 22) x13 ) fun x14 =>
 CM.rm (q2 (fun a k => lookupA Tryz.prog 102 a k false) x10 x14 ) fun x15 =>
 CM.pu (p2 (binA Tryz.prog .gtr 3) x15 (.int .i64 1)) fun x16 =>
 CM.cond x16 (
 CM.st (fun m => stV m t2 (.bool false) 1) <|
 CM.go 1 []) (
 CM.go 0 [])
noncomputable abbrev EN : Env := ⟨Tryz.prog, U.B, fun _ => none⟩
theorem y10_0_ok (b : Nat) (u0 t2 t3 t5 t9 t10 : AV) (m : Mem) : goF E41 (run E41) (.rd b) 400 [.code (loopOf E41 10 0 []).assign, .beginRound, .code (loopOf E41 10 0 []).body] (bindP (loopOf E41 10 0 []).params [u0] ([.undef, .undef, t2, t3, .undef, t5, .undef, .undef, .undef, t9, t10] ++ List.replicate 14 .undef)) m = interp (Ry Tryz.prog E41 b) (y10_0 b [u0, t2, t3, t5, t9, t10]) m := by kernel_rfl
noncomputable abbrev lrec (t2 t3 t9 : AV) (st : LoopState) (pe : Option Jmp) : Blk := .loop { loopOf EN 10 0 ([.undef, .undef, t2, t3, .undef, .undef, .undef, .undef, .undef, t9, .undef] ++ List.replicate 14 .undef) with state := st, pending := pe }
theorem y10_is {b : Nat} {t2 t3 t9 u0 : AV} {m : Mem} {st : LoopState} {pe : Option Jmp} (hm : m.get b = some (lrec t2 t3 t9 st pe)) {r : AV × Mem} (h : interp (Ry Tryz.prog E41 b) (y10_0 b [u0, t2, t3, .undef, t9, .undef]) m = some r) : run E41 (.yl b) [u0] m = some r := by
  have hm' : m.get b = some (.loop { loopOf E41 10 0 ([.undef, .undef, t2, t3, .undef, .undef, .undef, .undef, .undef, t9, .undef] ++ List.replicate 14 .undef) with state := st, pending := pe }) := by
    rw [← loopOf_B (show EN.B = E41.B from rfl)]; exact hm
  refine round_of hm' (by rw [loopOf_t]; kernel_rfl) (n := 400) ?_
  rw [loopOf_t]
  exact (y10_0_ok b u0 t2 t3 .undef t9 .undef m).trans h
theorem tr_lp {H : FuncId → Option (List AV → Mem → R)} (e : En Tryz.prog U.B) (hc : chkEn e = true) {x : Nat × (List AV → CM) × (List AV → CM) × List (Nat × (List AV → CM))} (hx : x ∈ e.t.ls) (xs : List AV) (m : Mem) : (x.2.1 xs ≠ .fail → (Da H).afr x.1 none xs m = interp (Da H) (x.2.1 xs) m) ∧ (x.2.2.1 xs ≠ .fail → (Da H).afr x.1 (some .ret) xs m = interp (Da H) (x.2.2.1 xs) m) := by
  obtain ⟨h1, h2, _⟩ := (e.ok hc H).ls x hx
  exact ⟨fun hn => (h1 xs m).resolve_right hn, fun hn => (h2 xs m).resolve_right hn⟩
theorem leadf_is {m : Mem} {x : List AV} (h : VOk x) : Res m (run E41 (.fn 43) [.agg x] m) (.bool (leads x)) := by
  have hb : boxA (.agg x) = some (.cells x false, fun b => .ptr (some ⟨b, 0⟩)) := box_agg h.one
  simp only [f43_is (H := H41) h41_43, F43, Int.ofNat_eq_natCast, Int.cast_ofNat_Int, p1, q1, p2, Nat.reduceAdd, w_f43, hb, lcl, h.c0, h.c2, ifV]
  refine ⟨m.lay (.cells x false), ?_, (Fr.refl m).lay _⟩
  unfold leads
  cases vup x <;> rfl
def MI (m : Mem) (b : Nat) (f : Int → Option Int) : Prop := ∃ L : List (Int × AV), m.get b = some (.map (mEnc L)) ∧ (L.map (·.1)).Nodup ∧ ∀ k, lookI k L = (f k).map fun n => .int .i64 n
theorem hu102 : Tryz.prog.underlying 102 = some (.map 22 3) := by kernel_rfl
theorem hu22 : Tryz.prog.underlying 22 = some (.int .u64) := by kernel_rfl
theorem ld102 (p : AV) (m : Mem) : loadA Tryz.prog 102 p m = ld1 m p := by kernel_rfl
theorem mi_put {m : Mem} {b : Nat} {f : Int → Option Int} (h : MI m b f) (k n : Int) : ∃ v, mapPut Tryz.prog 102 (.map (some b)) (.int .u64 k) (.int .i64 n) m = some (m.put b (some v)) ∧ MI (m.put b (some v)) b (fun j => if j = k then some n else f j) := by
  obtain ⟨L, h1, h2, h3⟩ := h
  refine ⟨.map (mEnc (putI k (.int .i64 n) L)), ?_, putI k (.int .i64 n) L, put_self h1, putI_nodup _ _ h2, fun j => ?_⟩
  · simp only [mapPut, hu102, hu22, Option.bind_some, h1, keyEq_int, mput_enc _ _ _ h2, Option.map_some]
  · rw [lookI_putI, h3]
    show _ = Option.map _ (if j = k then some n else f j)
    split <;> rfl
theorem mi_get {m : Mem} {b : Nat} {f : Int → Option Int} (h : MI m b f) (k : Int) : lookupA Tryz.prog 102 (.map (some b)) (.int .u64 k) false m = some (.int .i64 ((f k).getD 0)) := by
  obtain ⟨L, h1, h2, h3⟩ := h
  have hz : zeroV Tryz.prog 3 = some (.int .i64 0) := by kernel_rfl
  simp only [lookupA, hu102, hu22, Option.bind_some, mapOf, h1, keyEq_int, mget_enc _ _ h2, h3]
  cases f k with
  | none => simp [hz]
  | some e => simp
theorem MI.of {m m' : Mem} {b : Nat} {f : Int → Option Int} (h : MI m b f) (hg : m'.get b = m.get b) : MI m' b f := by
  obtain ⟨L, h1, h2⟩ := h
  exact ⟨L, by rw [hg]; exact h1, h2⟩
def seenF (T : List Int) (k : Int) : Option Int := if k ∈ T then some 1 else none
structure LInvM (n0 : Nat) (s : AV) (t9 : AV) (T : List Int) (M : Mem) : Prop where
  nx : n0 + 6 ≤ M.next
  g0 : M.get n0 = some (.cells [.bool false] false)
  g1 : MI M (n0 + 1) (seenF T)
  g2 : M.get (n0 + 2) = some (.cells [.map (some (n0 + 1))] false)
  g4 : M.get (n0 + 4) = some (.cells [.fn (.func 43) [] []] false)
  g5 : M.get (n0 + 5) = some (lrec (.ptr (some ⟨n0, 0⟩)) (.ptr (some ⟨n0 + 2, 0⟩)) t9 .ready none)
theorem LInvM.frame {n0 : Nat} {s t9 : AV} {T : List Int} {M M' : Mem} (h : LInvM n0 s t9 T M) (hf : Fr M M' []) : LInvM n0 s t9 T M' := by
  have hn := h.nx
  exact ⟨Nat.le_trans h.nx hf.next, hf.get h.g0 (by simp), h.g1.of (hf.2 _ (by omega) (by simp)), hf.get h.g2 (by simp), hf.get h.g4 (by simp), hf.get h.g5 (by simp)⟩
theorem round_is {n0 : Nat} {s t9 : AV} {T : List Int} {M : Mem} {x : List AV} (h : LInvM n0 s t9 T M) (hx : VOk x) :
    ∃ M', run E41 (.yl (n0 + 5)) [.agg x] M = some (.bool (decide (vterm x ∉ T)), M') ∧ Fr M M' [n0, n0 + 1, n0 + 5] ∧ (vterm x ∉ T → LInvM n0 s t9 (T ++ [vterm x]) M') ∧
      (vterm x ∈ T → M'.get (n0 + 5) = some (lrec (.ptr (some ⟨n0, 0⟩)) (.ptr (some ⟨n0 + 2, 0⟩)) t9 .done (some .ret)) ∧ M'.get n0 = some (.cells [.bool false] false)) := by
  have hn := h.nx
  obtain ⟨Ma, hMa⟩ : ∃ Ma, Ma = M.lay (.cells x false) := ⟨_, rfl⟩
  have fa : Fr M Ma [] := by rw [hMa]; exact (Fr.refl M).lay _
  have ha := h.frame fa
  have na : Ma.next = M.next + 1 := by rw [hMa]; rfl
  have s0 := fun z (hz : z.length = 22) => over_view hx (zs := z) hz
  obtain ⟨Mb, hMb⟩ : ∃ Mb, Mb = Ma.put (n0 + 5) (some (lrec (.ptr (some ⟨n0, 0⟩)) (.ptr (some ⟨n0 + 2, 0⟩)) t9 .busy none)) := ⟨_, rfl⟩
  have nb : Mb.next = M.next + 1 := by rw [hMb]; exact na
  have b2 : beginA (.rd (n0 + 5)) Ma = some Mb := by
    unfold beginA
    simp only [ha.g5, if_true]
    rw [hMb]
  have gb : ∀ c, c ≠ n0 + 5 → Mb.get c = Ma.get c := fun c hc => by rw [hMb, put_ne hc]
  have l2 : ld1 Mb (.ptr (some ⟨n0 + 2, 0⟩)) = some (.map (some (n0 + 1))) := by rw [ld1_at (by rw [gb _ (by omega)]; exact ha.g2)]; rfl
  have lx : ld1 Mb (.ptr (some ⟨M.next, 4⟩)) = some (.int .u64 (vterm x)) := by
    rw [ld1_at (cs := x) (ro := false) (by rw [gb _ (by omega), hMa]; exact lay_self _ _)]; exact hx.c4
  have mb : MI Mb (n0 + 1) (seenF T) := ha.g1.of (gb _ (by omega))
  have e1 := mi_get mb (vterm x)
  obtain ⟨n, hnn⟩ : ∃ n, n = IntKind.i64.wrap ((seenF T (vterm x)).getD 0 + 1) := ⟨_, rfl⟩
  obtain ⟨v, p1', p2'⟩ := mi_put mb (vterm x) n
  obtain ⟨Mc, hMc⟩ : ∃ Mc, Mc = Mb.put (n0 + 1) (some v) := ⟨_, rfl⟩
  rw [← hMc] at p1' p2'
  have nc : Mc.next = M.next + 1 := by rw [hMc]; exact nb
  have gc : ∀ c, c ≠ n0 + 1 → Mc.get c = Mb.get c := fun c hc => by rw [hMc, put_ne hc]
  have l2' : ld1 Mc (.ptr (some ⟨n0 + 2, 0⟩)) = some (.map (some (n0 + 1))) := by rw [ld1_at (by rw [gc _ (by omega), gb _ (by omega)]; exact ha.g2)]; rfl
  have lx' : ld1 Mc (.ptr (some ⟨M.next, 4⟩)) = some (.int .u64 (vterm x)) := by
    rw [ld1_at (cs := x) (ro := false) (by rw [gc _ (by omega), gb _ (by omega), hMa]; exact lay_self _ _)]; exact hx.c4
  have e2 := mi_get p2' (vterm x)
  simp only [if_true, Option.getD_some] at e2
  have g5c : Mc.get (n0 + 5) = some (lrec (.ptr (some ⟨n0, 0⟩)) (.ptr (some ⟨n0 + 2, 0⟩)) t9 .busy none) := by rw [gc _ (by omega), hMb]; exact put_self ha.g5
  have g0c : Mc.get n0 = some (.cells [.bool false] false) := by rw [gc _ (by omega), gb _ (by omega)]; exact ha.g0
  have fc : Fr M Mc [n0, n0 + 1, n0 + 5] := by
    rw [hMc, hMb]
    exact ((fa.any [n0, n0 + 1, n0 + 5]).put' (by simp)).put' (by simp)
  by_cases hk : vterm x ∈ T
  · have hn1 : n = 2 := by rw [hnn]; unfold seenF; rw [if_pos hk]; decide
    have hw := hnn.symm.trans hn1
    rw [hn1] at p1' e2
    have st0 : stV Mc (.ptr (some ⟨n0, 0⟩)) (.bool false) 1 = some (Mc.put n0 (some (.cells [.bool false] false))) := stV_at g0c (cells1 rfl) rfl (by simp)
    have g5d : (Mc.put n0 (some (.cells [.bool false] false))).get (n0 + 5) = some (lrec (.ptr (some ⟨n0, 0⟩)) (.ptr (some ⟨n0 + 2, 0⟩)) t9 .busy none) := by rw [put_ne (by omega)]; exact g5c
    refine ⟨(Mc.put n0 (some (.cells [.bool false] false))).put (n0 + 5) (some (lrec (.ptr (some ⟨n0, 0⟩)) (.ptr (some ⟨n0 + 2, 0⟩)) t9 .done (some .ret))), ?_, (fc.put' (by simp)).put' (by simp), fun h => absurd hk h, fun _ => ⟨put_self g5d, by rw [put_ne (by omega)]; exact put_self g0c⟩⟩
    have fi : (Ry Tryz.prog E41 (n0 + 5)).gor 1 [] (Mc.put n0 (some (.cells [.bool false] false))) = some (.bool false, (Mc.put n0 (some (.cells [.bool false] false))).put (n0 + 5) (some (lrec (.ptr (some ⟨n0, 0⟩)) (.ptr (some ⟨n0 + 2, 0⟩)) t9 .done (some .ret)))) := by
      show fin Tryz.prog (.rd (n0 + 5)) (some .ret) [] _ = _
      unfold fin
      simp only [g5d]
      rfl
    refine y10_is h.g5 ?_
    simp only [aps, y10_0, ips, Option.bind_some, p1, p2, q1, q2, pB, lms, ift, Option.map_some, s0 [_, _, _, _, _, _, _, _, _, _, _, _, _, _, _, _, _, _, _, _, _, _] rfl, ← hMa, b2, ld102, l2, fa32_1, fa28_3, fa24_0, ld22, Nat.zero_add, Nat.add_zero, Nat.reduceAdd, lx, e1, bin_add, hw, p1', l2', lx', e2, bin_gtr, show (2 : Int) > 1 by decide, decide_true, condA, st0, fi, hk, not_true_eq_false, decide_false]
  · have hn1 : n = 1 := by rw [hnn]; unfold seenF; rw [if_neg hk]; decide
    have hw := hnn.symm.trans hn1
    rw [hn1] at p1' e2
    have fi : (Ry Tryz.prog E41 (n0 + 5)).gor 0 [] Mc = some (.bool true, Mc.put (n0 + 5) (some (lrec (.ptr (some ⟨n0, 0⟩)) (.ptr (some ⟨n0 + 2, 0⟩)) t9 .ready none))) := by
      show fin Tryz.prog (.rd (n0 + 5)) none [] _ = _
      unfold fin
      simp only [g5c]
      rfl
    refine ⟨Mc.put (n0 + 5) (some (lrec (.ptr (some ⟨n0, 0⟩)) (.ptr (some ⟨n0 + 2, 0⟩)) t9 .ready none)), ?_, fc.put' (by simp), fun _ => ?_, fun h => absurd h hk⟩
    · refine y10_is h.g5 ?_
      simp only [aps, y10_0, ips, Option.bind_some, p1, p2, q1, q2, pB, lms, ift, Option.map_some, s0 [_, _, _, _, _, _, _, _, _, _, _, _, _, _, _, _, _, _, _, _, _, _] rfl, ← hMa, b2, ld102, l2, fa32_1, fa28_3, fa24_0, ld22, Nat.zero_add, Nat.add_zero, Nat.reduceAdd, lx, e1, bin_add, hw, p1', l2', lx', e2, bin_gtr, show ¬ (1 : Int) > 1 by decide, decide_false, condA, fi, hk, not_false_eq_true, decide_true]
    · refine ⟨by show n0 + 6 ≤ Mc.next; omega, by rw [put_ne (by omega)]; exact g0c, ?_, by rw [put_ne (by omega), gc _ (by omega), gb _ (by omega)]; exact ha.g2, by rw [put_ne (by omega), gc _ (by omega), gb _ (by omega)]; exact ha.g4, put_self g5c⟩
      have hT : (fun j => if j = vterm x then some n else seenF T j) = seenF (T ++ [vterm x]) := funext fun j => by
        unfold seenF
        by_cases hj : j = vterm x
        · subst hj; simp [hn1]
        · simp [hj]
      rw [hT] at p2'
      exact p2'.of (put_ne (by omega))
section
variable {s : AV} {l : List (List AV)}
theorem terms_take {i : Nat} (hi : i < l.length) : termsOf (l.take (i + 1)) = termsOf (l.take i) ++ (if leads l[i] = true then [vterm l[i]] else []) := by
  rw [List.take_add_one, List.getElem?_eq_getElem hi, ← termsOf_snoc]; rfl
theorem terms_bad {i : Nat} (hi : i < l.length) (h1 : leads l[i] = true) (h2 : vterm l[i] ∈ termsOf (l.take i)) : ¬ (termsOf l).Nodup := fun hn => by
  have e : termsOf l = termsOf (l.take (i + 1)) ++ termsOf (l.drop (i + 1)) := by
    rw [← List.take_append_drop (i + 1) l]
    unfold termsOf
    rw [List.filter_append, List.map_append]
    simp
  rw [e, terms_take hi, if_pos h1] at hn
  exact (List.nodup_append.1 (List.nodup_append.1 hn).1).2.2 _ h2 _ (List.mem_singleton.2 rfl) rfl
theorem those_go {m : Mem} {t9 : AV} (hl : l.length < 9223372036854775807) (hv : Vs m s l) : ∀ (j i : Nat) (M : Mem), i + j = l.length → Fr m M [] → LInvM m.next s t9 (termsOf (l.take i)) M → (termsOf (l.take i)).Nodup →
    ∃ M' st pe, D41.gor 372736 [.yld (m.next + 5), .ptr (some ⟨m.next + 4, 0⟩), s, .int .i64 (l.length : Int), .int .i64 (i : Int)] M = some (.undef, M') ∧ Fr m M' [] ∧ M'.get m.next = some (.cells [.bool false] false) ∧
      M'.get (m.next + 5) = some (lrec (.ptr (some ⟨m.next, 0⟩)) (.ptr (some ⟨m.next + 2, 0⟩)) t9 st pe) ∧ ((termsOf l).Nodup ∧ st = .ready ∧ pe = none ∨ ¬ (termsOf l).Nodup ∧ st = .done ∧ pe = some .ret)
  | 0, i, M, h, hf, hi, nd => by
    have c : ¬ (i : Int) < (l.length : Int) := by omega
    rw [List.take_of_length_le (by omega)] at nd
    refine ⟨M, .ready, none, ?_, hf, hi.g0, hi.g5, .inl ⟨nd, rfl, rfl⟩⟩
    rw [g91_0_is]
    simp only [G91_0, p2, condA, w_g91_0, c, decide_false]
  | j + 1, i, M, h, hf, hi, nd => by
    have c : (i : Int) < (l.length : Int) := by omega
    have hil : i < l.length := by omega
    have hn := hi.nx
    obtain ⟨b, o, _, e1, _, e2⟩ := Vs_at (hv.frame0 hf) hil
    have hx := hv.ok _ (List.getElem_mem hil)
    have tt := terms_take hil
    have tb := terms_bad hil
    have ad : binA Tryz.prog .add 3 (.int .i64 (i : Int)) (.int .i64 1) = some (.int .i64 ((i + 1 : Nat) : Int)) := add_i64 (by omega) (by omega) (by omega)
    generalize l[i] = x at *
    have s0 := fun z (hz : z.length = 22) => over_view hx (zs := z) hz
    obtain ⟨M1, hM1⟩ : ∃ M1, M1 = M.lay (.cells x false) := ⟨_, rfl⟩
    have f1 : Fr M M1 [] := by rw [hM1]; exact (Fr.refl M).lay _
    have i1 := hi.frame f1
    have x1 : M1.get M.next = some (.cells x false) := by rw [hM1]; exact lay_self _ _
    have l4 : ld1 M1 (.ptr (some ⟨m.next + 4, 0⟩)) = some (.fn (.func 43) [] []) := by rw [ld1_at i1.g4]; rfl
    have tk : (x.drop 0).take 22 = x := by rw [List.drop_zero, List.take_of_length_le (by rw [hx.len]; omega)]
    have lb1 : ldN M1 (.ptr (some ⟨M.next, 0⟩)) 22 = some (.agg x) := by rw [ldN_at x1 (by rw [hx.len]; omega), tk]
    obtain ⟨M2, r1, r2⟩ := leadf_is (m := M1) hx
    have i2 := i1.frame r2
    have lb2 : ldN M2 (.ptr (some ⟨M.next, 0⟩)) 22 = some (.agg x) := by rw [ldN_at (r2.get x1 (by simp)) (by rw [hx.len]; omega), tk]
    have hf2 : Fr m M2 [] := (hf.step0 f1).step0 r2
    rw [g91_0_is]
    simp only [G91_0, p2, condA, w_g91_0, c, decide_true]
    rw [g91_1_is]
    simp only [G91_1, Int.ofNat_eq_natCast, Int.cast_ofNat_Int, p2, q1, pB, p1, condA, unA, w_g91_1, e1, e2, lms, ift, oms, s0 [_, _, _, _, _, _, _, _, _, _, _, _, _, _, _, _, _, _, _, _, _, _] rfl, ← hM1, l4, lb1, callA, List.nil_append, List.append_nil, r1]
    cases hlx : leads x with
    | false =>
      rw [hlx, if_neg (by simp), List.append_nil] at tt
      obtain ⟨M', st, pe, q1, q2⟩ := those_go hl hv j (i + 1) M2 (by omega) hf2 (by rw [tt]; exact i2) (by rw [tt]; exact nd)
      refine ⟨M', st, pe, ?_, q2⟩
      simp only [ifV, g91_2_is (H := H41), G91_2, Int.ofNat_eq_natCast, Int.cast_ofNat_Int, p2, w_g91_2, ad, q1]
    | true =>
      obtain ⟨M3, g1, g2, g3, g4⟩ := round_is i2 hx
      have hf3 : Fr m M3 [] := hf2.step g2 (by simp)
      rw [hlx, if_pos rfl] at tt
      by_cases hk : vterm x ∈ termsOf (l.take i)
      · obtain ⟨k1, k2⟩ := g4 hk
        refine ⟨M3, .done, some .ret, ?_, hf3, k2, k1, .inr ⟨tb hlx hk, rfl, rfl⟩⟩
        simp only [ifV, lb2, g1, hk, not_true_eq_false, decide_false, Bool.not_false, Option.bind_some]
      · have nd' : (termsOf (l.take (i + 1))).Nodup := by
          rw [tt]
          refine List.nodup_append.2 ⟨nd, by simp, fun a ha b hb => ?_⟩
          rw [List.mem_singleton] at hb
          subst hb
          exact fun e => hk (e ▸ ha)
        obtain ⟨M', st, pe, q1, q2⟩ := those_go hl hv j (i + 1) M3 (by omega) hf3 (by rw [tt]; exact g3 hk) nd'
        refine ⟨M', st, pe, ?_, q2⟩
        simp only [ifV, lb2, g1, hk, not_false_eq_true, decide_true, Bool.not_true, Option.bind_some, g91_2_is (H := H41), G91_2, Int.ofNat_eq_natCast, Int.cast_ofNat_Int, p2, w_g91_2, ad, q1]
end
theorem box1 {x : AV} (h : x.one = true) : boxA x = some (.cells [x] false, fun b => .ptr (some ⟨b, 0⟩)) := by simp only [boxA, Option.bind_some, cells1 h, Option.map_some]
theorem those_is {m : Mem} {s : AV} (hs : s.one = true) : run E41 (.fn 44) [s, .fn (.func 43) [] []] m = some (.fn (.func 91) [] [.ptr (some ⟨m.next, 0⟩), .ptr (some ⟨m.next + 1, 0⟩)], (m.lay (.cells [s] false)).lay (.cells [.fn (.func 43) [] []] false)) := by
  simp only [f44_is (H := H41) h41_44, F44, w_f44, box1 hs, box1 (x := .fn (.func 43) [] []) rfl, Mem.next_lay]
theorem around_is (M : Mem) : around (mdR (rsOf EN 10)) M = true := by kernel_rfl
noncomputable def L10 : {x : Nat × (List AV → CM) × (List AV → CM) × List (Nat × (List AV → CM)) // (U.t10.x (OX Tryz.prog U.B)).ls = [x]} := ⟨_, by conv => lhs; simp only [U.t10, realO]⟩
theorem L10_mem : L10.1 ∈ (e10).t.ls := by rw [show (e10).t.ls = [L10.1] from L10.2]; exact List.mem_singleton.2 rfl
theorem lead_is {m : Mem} {s : AV} {l : List (List AV)} (hl : l.length < 9223372036854775807) (hv : Vs m s l) : Res m (run E41 (.fn 10) [s] m) (.bool (decide (termsOf l).Nodup)) := by
  have hs := hv.row.one
  obtain ⟨MM, hMM⟩ : ∃ MM, MM = ((((m.lay (.cells [.bool false] false)).lay (.map [])).lay (.cells [.map (some (m.next + 1))] false)).lay (.cells [s] false)).lay (.cells [.fn (.func 43) [] []] false) := ⟨_, rfl⟩
  obtain ⟨t9, ht9⟩ : ∃ t9 : AV, t9 = .fn (.func 91) [] [.ptr (some ⟨m.next + 1 + 1 + 1, 0⟩), .ptr (some ⟨m.next + 1 + 1 + 1 + 1, 0⟩)] := ⟨_, rfl⟩
  obtain ⟨M1, hM1⟩ : ∃ M1, M1 = MM.lay (lrec (.ptr (some ⟨m.next, 0⟩)) (.ptr (some ⟨m.next + 2, 0⟩)) t9 .ready none) := ⟨_, rfl⟩
  have nM : MM.next = m.next + 5 := by rw [hMM]; rfl
  have fM : Fr m MM [] := by rw [hMM]; exact (((((Fr.refl m).lay _).lay _).lay _).lay _).lay _
  have f1 : Fr m M1 [] := by rw [hM1]; exact fM.lay _
  have inv : LInvM m.next s t9 (termsOf (l.take 0)) M1 := by
    refine ⟨by rw [hM1, Mem.next_lay]; omega, ?_, ⟨[], ?_, by simp, fun k => rfl⟩, ?_, ?_, ?_⟩
    · rw [hM1, Mem.get_lay, if_neg (by omega), hMM]; simp only [Mem.get_lay, Mem.next_lay, nn1, nn2, nn3, nn4, if_false, if_true]
    · rw [hM1, Mem.get_lay, if_neg (by omega), hMM]; simp only [Mem.get_lay, Mem.next_lay, nn1, nn2, nn3, if_false, if_true]; rfl
    · show M1.get (m.next + 1 + 1) = _
      rw [hM1, Mem.get_lay, if_neg (by omega), hMM]; simp only [Mem.get_lay, Mem.next_lay, nn1, nn2, if_false, if_true]
    · show M1.get (m.next + 1 + 1 + 1 + 1) = _
      rw [hM1, Mem.get_lay, if_neg (by omega), hMM]; simp only [Mem.get_lay, Mem.next_lay, if_true]
    · rw [hM1, ← nM]; exact lay_self _ _
  obtain ⟨M', st, pe, q1, q2, q3, q4, q5⟩ := those_go hl hv l.length 0 M1 (by omega) f1 inv (by simp [termsOf])
  have l3 : ld1 M1 (.ptr (some ⟨m.next + 1 + 1 + 1, 0⟩)) = some s := by
    rw [ld1_at (cs := [s]) (ro := false) (by rw [hM1, Mem.get_lay, if_neg (by omega), hMM]; simp only [Mem.get_lay, Mem.next_lay, nn1, if_false, if_true])]; rfl
  rw [show ((0 : Nat) : Int) = 0 from rfl] at q1
  have hrun : run E41 (.fn 91) [.yld (m.next + 5), .ptr (some ⟨m.next + 1 + 1 + 1, 0⟩), .ptr (some ⟨m.next + 1 + 1 + 1 + 1, 0⟩)] M1 = some (.undef, M') := by
    simp only [f91_is (H := H41) h41_91, F91, Int.ofNat_eq_natCast, Int.cast_ofNat_Int, q1, p1, w_f91, l3, Vs_len hv]
    first | done | exact q1
  have ov : over [.map none] 0 (.map (some (m.next + 1))) 1 = some [.map (some (m.next + 1))] := rfl
  simp only [f10_is (H := H41) h41_10, F10, pB, mB, w_f10, lcl, ov, those_is hs, ← hMM, ← ht9]
  rw [g10_0_is]
  simp only [G10_0, w_g10_0]
  subst ht9
  obtain ⟨ts, hts⟩ : ∃ ts : List AV, ts = [.undef, .undef, .ptr (some ⟨m.next, 0⟩), .ptr (some ⟨m.next + 1 + 1, 0⟩), .undef, .undef, .undef, .undef, .undef, .fn (.func 91) [] [.ptr (some ⟨m.next + 1 + 1 + 1, 0⟩), .ptr (some ⟨m.next + 1 + 1 + 1 + 1, 0⟩)], .undef, .undef, .undef, .undef, .undef, .undef, .undef, .undef, .undef, .undef, .undef, .undef, .undef, .undef, .undef] := ⟨_, rfl⟩
  have hlay : MM.lay (.loop (loopOf EN 10 0 ts)) = M1 := by
    rw [hM1, hts]
    exact congrArg (fun b => MM.lay (.loop b)) (loopOf_ready EN _ _ _)
  have key : ∀ go : Option Jmp → Mem → R, rangeK (Da H41).call (mdR (rsOf EN 10)) (.fn (.func 91) [] [.ptr (some ⟨m.next + 1 + 1 + 1, 0⟩), .ptr (some ⟨m.next + 1 + 1 + 1 + 1, 0⟩)]) (loopOf EN 10 0 ts) MM go = rangeEnd (m.next + 5) M' go := fun go => by
    unfold rangeK
    simp only [around_is MM, if_true, List.nil_append, List.singleton_append]
    rw [hlay, nM, Da_call, hrun]
    rfl
  rw [← hts]
  rw [key]
  have fp : Fr m (M'.put (m.next + 5) none) [] := q2.put' (by simp)
  have g0 : (M'.put (m.next + 5) none).get m.next = some (.cells [.bool false] false) := by rw [put_ne (by omega)]; exact q3
  have lp := tr_lp (H := H41) e10 c10 L10_mem ts (M'.put (m.next + 5) none)
  have lp1 := lp.1 (by rw [hts]; exact nofun)
  have lp2 := lp.2 (by rw [hts]; exact nofun)
  unfold rangeEnd
  rcases q5 with ⟨nd, rfl, rfl⟩ | ⟨nd, rfl, rfl⟩
  · simp only [q4, decide_eq_true nd]
    have hst : stV (M'.put (m.next + 5) none) (.ptr (some ⟨m.next, 0⟩)) (.bool true) 1 = some ((M'.put (m.next + 5) none).put m.next (some (.cells [.bool true] false))) := stV_at g0 (cells1 rfl) rfl (by simp)
    have hld : ld1 ((M'.put (m.next + 5) none).put m.next (some (.cells [.bool true] false))) (.ptr (some ⟨m.next, 0⟩)) = some (.bool true) := by rw [ld1_at (put_self g0)]; rfl
    refine ⟨_, ?_, fp.put' (b := m.next) (v := some (.cells [.bool true] false)) (by simp)⟩
    have := lp1
    rw [hts] at this ⊢
    simp only [L10] at this
    rw [if_neg (by decide), this]
    simp only [g10_2_is (H := H41), G10_2, resA, tupA, w_g10_2, hst, hld]
  · simp only [q4, decide_eq_false nd]
    have hld : ld1 (M'.put (m.next + 5) none) (.ptr (some ⟨m.next, 0⟩)) = some (.bool false) := by rw [ld1_at g0]; rfl
    refine ⟨_, ?_, fp⟩
    have := lp2
    rw [hts] at this ⊢
    simp only [L10] at this
    rw [if_neg (by decide), this]
    simp only [ips, resA, ld4, nth0, hld, tupA, Option.bind_some]
end Go.Proofs.YtolmealocdgdhaaGreat
end
