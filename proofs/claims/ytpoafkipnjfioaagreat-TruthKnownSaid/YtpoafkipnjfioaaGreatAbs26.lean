/- The text of slices.Insert, over any type of elements: what it does. -/
import Derived.Test.YtpoafkipnjfioaaGreatAbs25
namespace Go.Abs
open Go

section ops
variable {P : Program} {t e : TypeId} {sz : Nat}

theorem len_sl (ht : P.underlying t = some (.slice e)) (a : Option AA) (s l c : Nat) (ex : Bool) : lenT P t (.sl a s l c ex) = some (.int .i64 l) := by simp [lenT, ht]
theorem cap_sl (ht : P.underlying t = some (.slice e)) (a : Option AA) (s l c : Nat) : capT P t (.sl a s l c true) = some (.int .i64 c) := by simp [capT, ht]
theorem slice_lo (ht : P.underlying t = some (.slice e)) (hs : szT P e = some sz) {a : AA} {s l c i : Nat} {ex : Bool} {k : IntKind} (hx : sz = s ∨ ex = true) (hi : i ≤ l) :
    sliceA P t (.sl (some a) s l c ex) (some (.int k (i : Int))) none = some (.sl (some ⟨a.b, a.o + i * sz⟩) sz (l - i) (c - i) ex) := by
  simp [sliceA, ht, hs, hiA, loA, hi, hx]
theorem slice_hi (ht : P.underlying t = some (.slice e)) (hs : szT P e = some sz) {a : AA} {s l c h : Nat} {ex : Bool} {k : IntKind} (hx : sz = s ∨ ex = true) (hh : h ≤ c) :
    sliceA P t (.sl (some a) s l c ex) none (some (.int k (h : Int))) = some (.sl (some a) sz h c ex) := by
  simp [sliceA, ht, hs, hiA, loA, hh, hx]
theorem slice_both (ht : P.underlying t = some (.slice e)) (hs : szT P e = some sz) {a : AA} {s l c i h : Nat} {ex : Bool} {k k' : IntKind} (hx : sz = s ∨ ex = true) (hi : i ≤ h) (hh : h ≤ c) :
    sliceA P t (.sl (some a) s l c ex) (some (.int k (i : Int))) (some (.int k' (h : Int))) = some (.sl (some ⟨a.b, a.o + i * sz⟩) sz (h - i) (c - i) ex) := by
  simp [sliceA, ht, hs, hiA, loA, hi, hh, hx]
theorem slice_nil_lo (ht : P.underlying t = some (.slice e)) (hs : szT P e = some sz) {s : Nat} {ex : Bool} {k : IntKind} : sliceA P t (.sl none s 0 0 ex) (some (.int k 0)) none = some (.sl none sz 0 0 true) := by
  simp [sliceA, ht, hs, hiA, loA]
theorem wrap_i64' {n : Int} (h0 : -9223372036854775808 ≤ n) (h1 : n < 9223372036854775808) : IntKind.i64.wrap n = n := wrap_i64 h0 h1
theorem add_i64 {ti : TypeId} {x y z : Int} (hz : z = x + y) (h0 : -9223372036854775808 ≤ z) (h1 : z < 9223372036854775808) : binA P .add ti (.int .i64 x) (.int .i64 y) = some (.int .i64 z) := by
  subst hz; simp [binA, intA, wrap_i64 h0 h1]
theorem sub_i64 {ti : TypeId} {x y z : Int} (hz : z = x - y) (h0 : -9223372036854775808 ≤ z) (h1 : z < 9223372036854775808) : binA P .sub ti (.int .i64 x) (.int .i64 y) = some (.int .i64 z) := by
  subst hz; simp [binA, intA, wrap_i64 h0 h1]
theorem eql_int {ti : TypeId} {k : IntKind} {x y : Int} : binA P .eql ti (.int k x) (.int k y) = some (.bool (decide (x = y))) := by simp [binA, intA]; rfl
theorem neq_int {ti : TypeId} {k : IntKind} {x y : Int} : binA P .neq ti (.int k x) (.int k y) = some (.bool (decide (x ≠ y))) := by
  simp [binA, intA]; rw [Bool.eq_iff_iff]; simp
theorem lss_int {ti : TypeId} {k : IntKind} {x y : Int} : binA P .lss ti (.int k x) (.int k y) = some (.bool (decide (x < y))) := by simp [binA, intA]
theorem leq_int {ti : TypeId} {k : IntKind} {x y : Int} : binA P .leq ti (.int k x) (.int k y) = some (.bool (decide (x ≤ y))) := by simp [binA, intA]
theorem gtr_int {ti : TypeId} {k : IntKind} {x y : Int} : binA P .gtr ti (.int k x) (.int k y) = some (.bool (decide (y < x))) := by simp [binA, intA]
theorem geq_int {ti : TypeId} {k : IntKind} {x y : Int} : binA P .geq ti (.int k x) (.int k y) = some (.bool (decide (y ≤ x))) := by simp [binA, intA]

theorem copy_st {a : AA} {s l c n j : Nat} {ex : Bool} {x : AV} {m m' : Mem} {cs ds : List AV} (hx : s = sz ∨ ex = true) (hsrc : srcA sz x m = some (n, cs)) (hj : min n l = j) (h0 : 0 < j) (hd : cs.take (j * sz) = ds) (h1 : ds.all AV.one = true) (hst : stCells m a ds = some m') :
    copyA sz (.sl (some a) s l c ex) x m = some (.int .i64 j, m') := by
  subst hj hd
  unfold copyA
  simp only [hsrc]
  rw [if_neg (by omega)]
  simp [hx, h1, hst]
theorem st_put {m : Mem} {a : AA} {cs vs : List AV} (h : m.get a.b = some (.cells cs false)) (hl : a.o + vs.length ≤ cs.length) : stCells m a vs = some (m.put a.b (some (.cells (cs.take a.o ++ vs ++ cs.drop (a.o + vs.length)) false))) := by
  simp [stCells, h, hl]
end ops

/-- The text. -/
noncomputable def insBody (P : Program) (st ti sz w : Nat) (ov rot : AV → AV → Mem → R) (a0 a1 a2 : AV) (m : Mem) : R :=
  Option.bind (sliceA P st a0 (some a1) none) fun _ =>
  Option.bind (lenT P st a2) fun x1 =>
  Option.bind (binA P .eql ti x1 (.int .i64 0)) fun x2 =>
  condA x2 (some (a0, m)) (
   Option.bind (lenT P st a0) fun y0 =>
   Option.bind (binA P .eql ti a1 y0) fun y1 =>
   condA y1 (Option.bind (appendA sz w a0 a2 m) fun r2 => some (r2.1, r2.2)) (
    Option.bind (binA P .add ti y0 x1) fun z0 =>
    Option.bind (capT P st a0) fun z1 =>
    Option.bind (binA P .gtr ti z0 z1) fun z2 =>
    condA z2 (
     Option.bind (sliceA P st a0 none (some a1)) fun x3 =>
     Option.bind (binA P .add ti y0 x1) fun x4 =>
     Option.bind (binA P .sub ti x4 a1) fun x5 =>
     Option.bind (appendZ P st x3 x5 m) fun r6 =>
     Option.bind (sliceA P st r6.1 (some a1) none) fun x7 =>
     Option.bind (copyA sz x7 a2 r6.2) fun r8 =>
     Option.bind (binA P .add ti a1 x1) fun x9 =>
     Option.bind (sliceA P st r6.1 (some x9) none) fun x10 =>
     Option.bind (sliceA P st a0 (some a1) none) fun x11 =>
     Option.bind (copyA sz x10 x11 r8.2) fun r12 =>
     some (r6.1, r12.2)) (
     Option.bind (binA P .add ti y0 x1) fun u0 =>
     Option.bind (sliceA P st a0 none (some u0)) fun u1 =>
     Option.bind (binA P .add ti a1 x1) fun u2 =>
     Option.bind (sliceA P st u1 (some u2) none) fun u3 =>
     Option.bind (ov a2 u3 m) fun r4 =>
     Option.bind (unA .not r4.1) fun u5 =>
     condA u5 (
      Option.bind (binA P .add ti a1 x1) fun u6 =>
      Option.bind (sliceA P st u1 (some u6) none) fun u7 =>
      Option.bind (sliceA P st u1 (some a1) none) fun u8 =>
      Option.bind (copyA sz u7 u8 r4.2) fun r9 =>
      Option.bind (sliceA P st u1 (some a1) none) fun u10 =>
      Option.bind (copyA sz u10 a2 r9.2) fun r11 =>
      some (u1, r11.2)) (
      Option.bind (sliceA P st u1 (some y0) none) fun v0 =>
      Option.bind (copyA sz v0 a2 r4.2) fun s1 =>
      Option.bind (sliceA P st u1 (some a1) none) fun v2 =>
      Option.bind (rot v2 x1 s1.2) fun s3 =>
      some (u1, s3.2)))))

theorem srcA_cells {sz : Nat} {a : AA} {s l c : Nat} {ex : Bool} {m : Mem} {cs : List AV} {ro : Bool} (hx : s = sz ∨ ex = true) (h : m.get a.b = some (.cells cs ro)) (hl : a.o + l * sz ≤ cs.length) :
    srcA sz (.sl (some a) s l c ex) m = some (l, (cs.drop a.o).take (l * sz)) := by
  have hld : ldCells m a (l * sz) = some ((cs.drop a.o).take (l * sz)) := by simp [ldCells, h, hl]
  unfold srcA
  split
  · simp_all
  · rename_i a' s' l' c' ex' e
    cases e
    simp [hx, hld]
  · simp_all
  · rename_i h1 h2 h3
    exact absurd rfl (h2 a s l c ex)
theorem srcA_size {sz k : Nat} {a : AA} {s l c : Nat} {ex : Bool} {m : Mem} {new : List AV} (h : srcA sz (.sl (some a) s l c ex) m = some (k, new)) : new.length = k * sz := by
  have hk := srcA_len h
  subst hk
  unfold srcA at h
  simp only at h
  split at h
  · obtain ⟨cs, h1, e⟩ := Option.map_eq_some_iff.1 h
    cases e
    obtain ⟨ds, ro, _, h2, rfl⟩ := ldCells_spec h1
    simp; omega
  · cases h

theorem ins_text {E : Env} {f st ti sz w e : Nat} {ov rot : AV → AV → Mem → R} {zs : List AV} (ht : E.P.underlying st = some (.slice e)) (hs : szT E.P e = some sz) (hw : bytesT E.P e = some w) (hz : zeroA E.P e = some zs)
    (hov : ∀ (v s : AV) (m : Mem), ov v s m = overlapsH [v, s] m) (heq : ∀ a0 a1 a2 m, run E (.fn f) [a0, a1, a2] m = insBody E.P st ti sz w ov rot a0 a1 a2 m) : InsText E f st sz w zs where
  fin := by
    intro s x n k new sa sz0 len cap ex xa sx cx exx m r hsE hxE hsrc hk hn1 hcase happ
    subst hsE hxE
    rw [heq]
    unfold insBody
    have e0 : ∃ y, sliceA E.P st (.sl sa sz0 len cap ex) (some (.int .i64 len)) none = some y := by
      rcases hcase with ⟨a, rfl, hx⟩ | ⟨rfl, rfl, rfl⟩
      · exact ⟨_, slice_lo ht hs (hx.imp Eq.symm id) (Nat.le_refl _)⟩
      · exact ⟨_, by simpa using slice_nil_lo (s := sz0) (ex := ex) (k := .i64) ht hs⟩
    obtain ⟨y, e0⟩ := e0
    simp only [e0, Option.bind_some, len_sl ht, eql_int, decide_eq_false (show ¬ (k : Int) = 0 by omega), condA, decide_true, happ]
  room := by
    intro a len cap i k xa sx cx exx cs old new m ha hfit hold hone hx hne hsrc hn1 hk hsz hw0 hzs hil hby hroom
    have hb : len + k ≤ 140737488355328 := Nat.le_trans (Nat.le_mul_of_pos_right _ hw0) hby
    have hnl := srcA_size hsrc
    have hmul : ∀ x y : Nat, x ≤ y → x * sz ≤ y * sz := fun x y h => Nat.mul_le_mul_right _ h
    have hlc := hmul len cap (by omega)
    have hlk := hmul (len + k) cap hroom
    have hil2 := hmul i len (by omega)
    have hadd : ∀ x y : Nat, (x + y) * sz = x * sz + y * sz := fun x y => Nat.add_mul _ _ _
    have hsub : (len - i) * sz = len * sz - i * sz := Nat.mul_sub_right_distrib _ _ _
    have hik := hadd i k
    have hlks := hadd len k
    have hol : old.length = len * sz := by rw [← hold, List.length_take, List.length_drop]; omega
    have hiksz : 0 < k * sz := Nat.mul_pos hk hsz
    rw [heq]
    unfold insBody
    have e1 := slice_lo (a := a) (s := sz) (c := cap) (ex := true) (k := .i64) ht hs (.inl rfl) (show i ≤ len by omega)
    have e2 := slice_hi (a := a) (s := sz) (l := len) (ex := true) (k := .i64) ht hs (.inl rfl) hroom
    have e3 := slice_lo (a := a) (s := sz) (c := cap) (ex := true) (k := .i64) ht hs (.inl rfl) (show i + k ≤ len + k by omega)
    have e4 := slice_lo (a := a) (s := sz) (c := cap) (ex := true) (k := .i64) ht hs (.inl rfl) (show i ≤ len + k by omega)
    have a1 : binA E.P .add ti (.int .i64 (len : Int)) (.int .i64 (k : Int)) = some (.int .i64 ((len + k : Nat) : Int)) := add_i64 (by simp) (by omega) (by omega)
    have a2 : binA E.P .add ti (.int .i64 (i : Int)) (.int .i64 (k : Int)) = some (.int .i64 ((i + k : Nat) : Int)) := add_i64 (by simp) (by omega) (by omega)
    obtain ⟨ds, hx⟩ := hx
    have hcne : cs ≠ [] := by rintro rfl; simp at hfit; omega
    have hovr : ov (.sl (some xa) sx k cx exx) (.sl (some ⟨a.b, a.o + (i + k) * sz⟩) sz (len + k - (i + k)) (cap - (i + k)) true) m = some (.bool false, m) := by
      rw [hov]
      obtain ⟨c0, cs0, rfl⟩ := List.exists_cons_of_ne_nil hcne
      simp only [overlapsH, if_neg hne, hx, ha]
    have hsr1 := srcA_cells (a := ⟨a.b, a.o + i * sz⟩) (s := sz) (l := len + k - i) (c := cap - i) (ex := true) (.inl rfl) ha (by
      have := hadd i (len + k - i)
      rw [show i + (len + k - i) = len + k by omega] at this
      simp only; omega)
    have hmove : ((cs.drop (a.o + i * sz)).take ((len + k - i) * sz)).take ((len - i) * sz) = old.drop (i * sz) := by
      rw [List.take_take, Nat.min_eq_left (hmul _ _ (by omega)), ← hold, List.drop_take, List.drop_drop, hsub]
    have hst1 := st_put (a := ⟨a.b, a.o + (i + k) * sz⟩) (vs := old.drop (i * sz)) ha (by simp only [List.length_drop, hol]; omega)
    have hc1 := copy_st (a := ⟨a.b, a.o + (i + k) * sz⟩) (s := sz) (l := len + k - (i + k)) (c := cap - (i + k)) (ex := true) (.inl rfl) hsr1 (j := len - i) (by omega) (by omega) hmove (by
      rw [List.all_eq_true] at hone ⊢
      exact fun v hv => hone v (List.mem_of_mem_drop hv)) hst1
    generalize hm1 : m.put a.b (some (.cells (cs.take (a.o + (i + k) * sz) ++ old.drop (i * sz) ++ cs.drop (a.o + (i + k) * sz + (old.drop (i * sz)).length)) false)) = m1 at hc1
    generalize hcs1 : cs.take (a.o + (i + k) * sz) ++ old.drop (i * sz) ++ cs.drop (a.o + (i + k) * sz + (old.drop (i * sz)).length) = cs1 at hm1
    have hal := Mem.get_lt ha
    have ha1 : m1.get a.b = some (.cells cs1 false) := by rw [← hm1, Mem.get_put, if_pos ⟨rfl, hal⟩]
    have hl1 : cs1.length = cs.length := by rw [← hcs1]; simp only [List.length_append, List.length_take, List.length_drop, hol]; omega
    have hsr2 : srcA sz (.sl (some xa) sx k cx exx) m1 = some (k, new) := by rw [← hm1, srcA_put hne]; exact hsrc
    have hst2 := st_put (a := ⟨a.b, a.o + i * sz⟩) (vs := new) ha1 (by simp only [hnl, hl1]; omega)
    have hc2 := copy_st (a := ⟨a.b, a.o + i * sz⟩) (s := sz) (l := len + k - i) (c := cap - i) (ex := true) (.inl rfl) hsr2 (j := k) (by omega) hk (List.take_of_length_le (by omega)) hn1 hst2
    simp only [e1, Option.bind_some, len_sl ht, cap_sl ht, eql_int, gtr_int, decide_eq_false (show ¬ (k : Int) = 0 by omega), decide_eq_false (show ¬ (i : Int) = (len : Int) by omega), condA, a1, a2,
      decide_eq_false (show ¬ (cap : Int) < ((len + k : Nat) : Int) by omega), e2, e3, e4, hovr, unA, Bool.not_false, hc1, hc2]
    refine ⟨_, rfl, by rw [← hm1]; rfl, fun b hb => ?_, ?_⟩
    · rw [Mem.get_put, if_neg (fun h => hb h.1), ← hm1, Mem.get_put, if_neg (fun h => hb h.1)]
    · rw [Mem.get_put, if_pos ⟨rfl, by rw [← hm1]; exact hal⟩]
      congr 2
      have p1 : cs1.take (a.o + i * sz) = cs.take (a.o + i * sz) := by
        rw [← hcs1, List.append_assoc, List.take_append_of_le_length (by simp; omega), List.take_take, Nat.min_eq_left (by omega)]
      have p2 : cs1.drop (a.o + i * sz + new.length) = old.drop (i * sz) ++ cs.drop (a.o + (len + k) * sz) := by
        rw [← hcs1, hnl, List.append_assoc, List.drop_append]
        have hlen : (cs.take (a.o + (i + k) * sz)).length = a.o + (i + k) * sz := by simp; omega
        rw [List.drop_eq_nil_of_le (by rw [hlen]; omega), List.nil_append, hlen, show a.o + i * sz + k * sz - (a.o + (i + k) * sz) = 0 by omega, List.drop_zero]
        congr 2
        simp only [List.length_drop, hol]; omega
      rw [p1, p2]; simp only [List.append_assoc]
  grow := by
    intro a len cap i k xa sx cx exx cs old new m ha hfit hold hone hx hne hsrc hn1 hk hsz hw0 hzs hil hby hlcap hroom
    have hb : len + k ≤ 140737488355328 := Nat.le_trans (Nat.le_mul_of_pos_right _ hw0) hby
    have hnl := srcA_size hsrc
    have hmul : ∀ x y : Nat, x ≤ y → x * sz ≤ y * sz := fun x y h => Nat.mul_le_mul_right _ h
    have hlc := hmul len cap (by omega)
    have hil2 := hmul i len (by omega)
    have hadd : ∀ x y : Nat, (x + y) * sz = x * sz + y * sz := fun x y => Nat.add_mul _ _ _
    have hik := hadd i k
    have hlks := hadd len k
    have hsub : (len - i) * sz = len * sz - i * sz := Nat.mul_sub_right_distrib _ _ _
    have hsub2 : (len + k - i) * sz = (len + k) * sz - i * sz := Nat.mul_sub_right_distrib _ _ _
    have hol : old.length = len * sz := by rw [← hold, List.length_take, List.length_drop]; omega
    have hiksz : 0 < k * sz := Nat.mul_pos hk hsz
    rw [heq]
    unfold insBody
    have e1 := slice_lo (a := a) (s := sz) (c := cap) (ex := true) (k := .i64) ht hs (.inl rfl) (show i ≤ len by omega)
    have e2 := slice_hi (a := a) (s := sz) (l := len) (ex := true) (k := .i64) ht hs (.inl rfl) (show i ≤ cap by omega)
    have a1 : binA E.P .add ti (.int .i64 (len : Int)) (.int .i64 (k : Int)) = some (.int .i64 ((len + k : Nat) : Int)) := add_i64 (by simp) (by omega) (by omega)
    have a2 : binA E.P .add ti (.int .i64 (i : Int)) (.int .i64 (k : Int)) = some (.int .i64 ((i + k : Nat) : Int)) := add_i64 (by simp) (by omega) (by omega)
    have a3 : binA E.P .sub ti (.int .i64 ((len + k : Nat) : Int)) (.int .i64 (i : Int)) = some (.int .i64 ((len + k - i : Nat) : Int)) := sub_i64 (by omega) (by omega) (by omega)
    have hal := Mem.get_lt ha
    have hold2 : (cs.drop a.o).take (i * sz) = old.take (i * sz) := by rw [← hold, List.take_take, Nat.min_eq_left hil2]
    have hz1 : appendZ E.P st (.sl (some a) sz i cap true) (.int .i64 ((len + k - i : Nat) : Int)) m = some (.sl (some ⟨m.next, 0⟩) sz (len + k) (len + k) false, m.alloc (old.take (i * sz) ++ (List.replicate (len + k - i) zs).flatten)) := by
      simp only [appendZ, ht, hz, hs, hw, Option.bind_some, Int.toNat_natCast]
      rw [if_pos ⟨by omega, hzs, hsz, hw0, by omega, by omega, by omega, by rw [show i + (len + k - i) = len + k by omega]; exact hby⟩]
      simp only [ldCells, ha]
      rw [if_pos (by omega), hold2]
      simp only [Option.map_some]
      rw [show i + (len + k - i) = len + k by omega]
    generalize hrow : old.take (i * sz) ++ (List.replicate (len + k - i) zs).flatten = row at hz1
    have hto : (old.take (i * sz)).length = i * sz := by rw [List.length_take]; omega
    have hrl : row.length = (len + k) * sz := by rw [← hrow]; simp only [List.length_append, List.length_flatten, List.map_replicate, List.sum_replicate_nat, hzs, hto]; omega
    have hr0 : (m.alloc row).get m.next = some (.cells row false) := by rw [Mem.get_alloc, if_pos rfl]
    have e5 := slice_lo (a := ⟨m.next, 0⟩) (s := sz) (c := len + k) (ex := false) (k := .i64) ht hs (.inl rfl) (show i ≤ len + k by omega)
    have e6 := slice_lo (a := ⟨m.next, 0⟩) (s := sz) (c := len + k) (ex := false) (k := .i64) ht hs (.inl rfl) (show i + k ≤ len + k by omega)
    simp only [Nat.zero_add] at e5 e6
    obtain ⟨ds, hx⟩ := hx
    have hxl := Mem.get_lt hx
    have hsr1 : srcA sz (.sl (some xa) sx k cx exx) (m.alloc row) = some (k, new) := by
      rw [← hsrc]; unfold srcA ldCells
      simp only [Mem.get_alloc, if_neg (show ¬ xa.b = m.next by omega)]
    have hst1 := st_put (a := ⟨m.next, i * sz⟩) (vs := new) hr0 (by simp only [hnl, hrl]; omega)
    have hc1 := copy_st (a := ⟨m.next, i * sz⟩) (s := sz) (l := len + k - i) (c := len + k - i) (ex := false) (.inl rfl) hsr1 (j := k) (by omega) hk (List.take_of_length_le (by omega)) hn1 hst1
    generalize hcs1 : row.take (i * sz) ++ new ++ row.drop (i * sz + new.length) = row1 at hc1
    generalize hm1 : (m.alloc row).put m.next (some (.cells row1 false)) = m1 at hc1
    have hm1n : m1.next = m.next + 1 := by rw [← hm1]; rfl
    have hr1 : m1.get m.next = some (.cells row1 false) := by rw [← hm1, Mem.get_put, if_pos ⟨rfl, by simp⟩]
    have hoth : ∀ b, b ≠ m.next → m1.get b = m.get b := fun b hb => by rw [← hm1, Mem.get_put, if_neg (fun h => hb h.1), Mem.get_alloc, if_neg hb]
    have ha1 : m1.get a.b = some (.cells cs false) := by rw [hoth _ (by omega)]; exact ha
    have hl1 : row1.length = (len + k) * sz := by rw [← hcs1]; simp only [List.length_append, List.length_take, List.length_drop, hrl, hnl]; omega
    have hsr2 := srcA_cells (a := ⟨a.b, a.o + i * sz⟩) (s := sz) (l := len - i) (c := cap - i) (ex := true) (.inl rfl) ha1 (by simp only [hsub]; omega)
    have hmove : ((cs.drop (a.o + i * sz)).take ((len - i) * sz)).take ((len - i) * sz) = old.drop (i * sz) := by
      rw [List.take_take, Nat.min_self, ← hold, List.drop_take, List.drop_drop, hsub]
    have hst2 := st_put (a := ⟨m.next, (i + k) * sz⟩) (vs := old.drop (i * sz)) hr1 (by simp only [List.length_drop, hol, hl1]; omega)
    have hc2 := copy_st (a := ⟨m.next, (i + k) * sz⟩) (s := sz) (l := len + k - (i + k)) (c := len + k - (i + k)) (ex := false) (.inl rfl) hsr2 (j := len - i) (by omega) (by omega) hmove (by
      rw [List.all_eq_true] at hone ⊢
      exact fun v hv => hone v (List.mem_of_mem_drop hv)) hst2
    simp only [e1, Option.bind_some, len_sl ht, cap_sl ht, eql_int, gtr_int, decide_eq_false (show ¬ (k : Int) = 0 by omega), decide_eq_false (show ¬ (i : Int) = (len : Int) by omega), condA, a1, a2, a3,
      decide_eq_true (show (cap : Int) < ((len + k : Nat) : Int) by omega), e2, hz1, e5, e6, hc1, hc2]
    refine ⟨_, rfl, by simp [hm1n], fun b hb => ?_, ?_⟩
    · rw [Mem.get_put, if_neg (fun h => hb h.1)]; exact hoth b hb
    · rw [Mem.get_put, if_pos ⟨rfl, by omega⟩]
      congr 2
      have hri : row.take (i * sz) = old.take (i * sz) := by rw [← hrow, List.take_append_of_le_length (by omega), List.take_take, Nat.min_self]
      have p1 : row1.take ((i + k) * sz) = old.take (i * sz) ++ new := by
        rw [← hcs1, hri, List.take_append_of_le_length (by simp only [List.length_append, hto, hnl]; omega), List.take_of_length_le (by simp only [List.length_append, hto, hnl]; omega)]
      have p3 : row1.drop ((i + k) * sz + (old.drop (i * sz)).length) = [] := List.drop_eq_nil_of_le (by simp only [List.length_drop, hol, hl1]; omega)
      rw [p1, p3, List.append_nil]
end Go.Abs
