/- Texts of one claim, put together. -/
import Derived.Test.YtolmealocdgdhaaGreatK7
section
namespace Go.Abs
open Go

section ops
variable {P : Program} {t e : TypeId} {sz : Nat}

theorem len_sl (ht : P.underlying t = some (.slice e)) (a : Option AA) (s l c : Nat) (ex : Bool) : lenT P t (.sl a s l c ex) = some (.int .i64 l) := by simp [lenT, ht]
theorem cap_sl (ht : P.underlying t = some (.slice e)) (a : Option AA) (s l c : Nat) : capT P t (.sl a s l c true) = some (.int .i64 c) := by simp [capT, ht]
theorem slice_lo (ht : P.underlying t = some (.slice e)) (hs : szT P e = some sz) {a : AA} {s l c i : Nat} {ex : Bool} {k : IntKind} (hx : sz = s ∨ ex = true) (hi : i ≤ l) :
    sliceA P t (.sl (some a) s l c ex) (some (.int k (i : Int))) none = some (.sl (some ⟨a.b, a.o + i * sz⟩) sz (l - i) (c - i) ex) := by
  simp [sliceA, ht, hs, hiA, loA, hi, hx]
theorem slice_hi (ht : P.underlying t = some (.slice e)) (hs : szT P e = some sz) {a : AA} {s l c h : Nat} {ex : Bool} {k : IntKind} (hx : sz = s ∨ ex = true) (hh : h ≤ c) :
    sliceA P t (.sl (some a) s l c ex) none (some (.int k (h : Int))) = some (.sl (some a) sz h c ex) := by
  simp [sliceA, ht, hs, hiA, loA, hh, hx]
theorem slice_both (ht : P.underlying t = some (.slice e)) (hs : szT P e = some sz) {a : AA} {s l c i h : Nat} {ex : Bool} {k k' : IntKind} (hx : sz = s ∨ ex = true) (hi : i ≤ h) (hh : h ≤ c) :
    sliceA P t (.sl (some a) s l c ex) (some (.int k (i : Int))) (some (.int k' (h : Int))) = some (.sl (some ⟨a.b, a.o + i * sz⟩) sz (h - i) (c - i) ex) := by
  simp [sliceA, ht, hs, hiA, loA, hi, hh, hx]
theorem slice_nil_lo (ht : P.underlying t = some (.slice e)) (hs : szT P e = some sz) {s : Nat} {ex : Bool} {k : IntKind} : sliceA P t (.sl none s 0 0 ex) (some (.int k 0)) none = some (.sl none sz 0 0 ex) := by
  simp [sliceA, ht, hs, hiA, loA]
theorem wrap_i64' {n : Int} (h0 : -9223372036854775808 ≤ n) (h1 : n < 9223372036854775808) : IntKind.i64.wrap n = n := wrap_i64 h0 h1
theorem add_i64 {ti : TypeId} {x y z : Int} (hz : z = x + y) (h0 : -9223372036854775808 ≤ z) (h1 : z < 9223372036854775808) : binA P .add ti (.int .i64 x) (.int .i64 y) = some (.int .i64 z) := by
  subst hz; simp [binA, intA, wrap_i64 h0 h1]
theorem sub_i64 {ti : TypeId} {x y z : Int} (hz : z = x - y) (h0 : -9223372036854775808 ≤ z) (h1 : z < 9223372036854775808) : binA P .sub ti (.int .i64 x) (.int .i64 y) = some (.int .i64 z) := by
  subst hz; simp [binA, intA, wrap_i64 h0 h1]
theorem eql_int {ti : TypeId} {k : IntKind} {x y : Int} : binA P .eql ti (.int k x) (.int k y) = some (.bool (decide (x = y))) := by simp [binA, intA]; rfl
theorem neq_int {ti : TypeId} {k : IntKind} {x y : Int} : binA P .neq ti (.int k x) (.int k y) = some (.bool (decide (x ≠ y))) := by
  simp [binA, intA]; rw [Bool.eq_iff_iff]; simp
theorem lss_int {ti : TypeId} {k : IntKind} {x y : Int} : binA P .lss ti (.int k x) (.int k y) = some (.bool (decide (x < y))) := by simp [binA, intA]
theorem leq_int {ti : TypeId} {k : IntKind} {x y : Int} : binA P .leq ti (.int k x) (.int k y) = some (.bool (decide (x ≤ y))) := by simp [binA, intA]
theorem gtr_int {ti : TypeId} {k : IntKind} {x y : Int} : binA P .gtr ti (.int k x) (.int k y) = some (.bool (decide (y < x))) := by simp [binA, intA]
theorem geq_int {ti : TypeId} {k : IntKind} {x y : Int} : binA P .geq ti (.int k x) (.int k y) = some (.bool (decide (y ≤ x))) := by simp [binA, intA]

theorem copy_st {a : AA} {s l c n j : Nat} {ex : Bool} {x : AV} {m m' : Mem} {cs ds : List AV} (hx : s = sz ∨ ex = true) (hsrc : srcA sz x m = some (n, cs)) (hj : min n l = j) (h0 : 0 < j) (hd : cs.take (j * sz) = ds) (h1 : ds.all AV.one = true) (hst : stCells m a ds = some m') :
    copyA sz (.sl (some a) s l c ex) x m = some (.int .i64 j, m') := by
  subst hj hd
  unfold copyA
  simp only [hsrc]
  rw [if_neg (by omega)]
  simp [hx, h1, hst]
theorem st_put {m : Mem} {a : AA} {cs vs : List AV} (h : m.get a.b = some (.cells cs false)) (hl : a.o + vs.length ≤ cs.length) : stCells m a vs = some (m.put a.b (some (.cells (cs.take a.o ++ vs ++ cs.drop (a.o + vs.length)) false))) := by
  simp [stCells, h, hl]
end ops

noncomputable def insBody (P : Program) (st ti sz w : Nat) (ov rot : AV → AV → Mem → R) (a0 a1 a2 : AV) (m : Mem) : R :=
  Option.bind (sliceA P st a0 (some a1) none) fun _ =>
  Option.bind (lenT P st a2) fun x1 =>
  Option.bind (binA P .eql ti x1 (.int .i64 0)) fun x2 =>
  condA x2 (some (a0, m)) (
   Option.bind (lenT P st a0) fun y0 =>
   Option.bind (binA P .eql ti a1 y0) fun y1 =>
   condA y1 (Option.bind (appendA sz w a0 a2 m) fun r2 => some (r2.1, r2.2)) (
    Option.bind (binA P .add ti y0 x1) fun z0 =>
    Option.bind (capT P st a0) fun z1 =>
    Option.bind (binA P .gtr ti z0 z1) fun z2 =>
    condA z2 (
     Option.bind (sliceA P st a0 none (some a1)) fun x3 =>
     Option.bind (binA P .add ti y0 x1) fun x4 =>
     Option.bind (binA P .sub ti x4 a1) fun x5 =>
     Option.bind (appendZ P st x3 x5 m) fun r6 =>
     Option.bind (sliceA P st r6.1 (some a1) none) fun x7 =>
     Option.bind (copyA sz x7 a2 r6.2) fun r8 =>
     Option.bind (binA P .add ti a1 x1) fun x9 =>
     Option.bind (sliceA P st r6.1 (some x9) none) fun x10 =>
     Option.bind (sliceA P st a0 (some a1) none) fun x11 =>
     Option.bind (copyA sz x10 x11 r8.2) fun r12 =>
     some (r6.1, r12.2)) (
     Option.bind (binA P .add ti y0 x1) fun u0 =>
     Option.bind (sliceA P st a0 none (some u0)) fun u1 =>
     Option.bind (binA P .add ti a1 x1) fun u2 =>
     Option.bind (sliceA P st u1 (some u2) none) fun u3 =>
     Option.bind (ov a2 u3 m) fun r4 =>
     Option.bind (unA .not r4.1) fun u5 =>
     condA u5 (
      Option.bind (binA P .add ti a1 x1) fun u6 =>
      Option.bind (sliceA P st u1 (some u6) none) fun u7 =>
      Option.bind (sliceA P st u1 (some a1) none) fun u8 =>
      Option.bind (copyA sz u7 u8 r4.2) fun r9 =>
      Option.bind (sliceA P st u1 (some a1) none) fun u10 =>
      Option.bind (copyA sz u10 a2 r9.2) fun r11 =>
      some (u1, r11.2)) (
      Option.bind (sliceA P st u1 (some y0) none) fun v0 =>
      Option.bind (copyA sz v0 a2 r4.2) fun s1 =>
      Option.bind (sliceA P st u1 (some a1) none) fun v2 =>
      Option.bind (rot v2 x1 s1.2) fun s3 =>
      some (u1, s3.2)))))

theorem srcA_cells {sz : Nat} {a : AA} {s l c : Nat} {ex : Bool} {m : Mem} {cs : List AV} {ro : Bool} (hx : s = sz ∨ ex = true) (h : m.get a.b = some (.cells cs ro)) (hl : a.o + l * sz ≤ cs.length) :
    srcA sz (.sl (some a) s l c ex) m = some (l, (cs.drop a.o).take (l * sz)) := by
  have hld : ldCells m a (l * sz) = some ((cs.drop a.o).take (l * sz)) := by simp [ldCells, h, hl]
  unfold srcA
  split
  · simp_all
  · rename_i a' s' l' c' ex' e
    cases e
    simp [hx, hld]
  · simp_all
  · rename_i h1 h2 h3
    exact absurd rfl (h2 a s l c ex)
theorem srcA_size {sz k : Nat} {a : AA} {s l c : Nat} {ex : Bool} {m : Mem} {new : List AV} (h : srcA sz (.sl (some a) s l c ex) m = some (k, new)) : new.length = k * sz := by
  have hk := srcA_len h
  subst hk
  unfold srcA at h
  simp only at h
  split at h
  · obtain ⟨cs, h1, e⟩ := Option.map_eq_some_iff.1 h
    cases e
    obtain ⟨ds, ro, _, h2, rfl⟩ := ldCells_spec h1
    simp; omega
  · cases h

theorem ins_text {E : Env} {f st ti sz w e : Nat} {ov rot : AV → AV → Mem → R} {zs : List AV} (ht : E.P.underlying st = some (.slice e)) (hs : szT E.P e = some sz) (hw : bytesT E.P e = some w) (hz : zeroA E.P e = some zs)
    (hov : ∀ (v s : AV) (m : Mem), ov v s m = overlapsH [v, s] m) (heq : ∀ a0 a1 a2 m, run E (.fn f) [a0, a1, a2] m = insBody E.P st ti sz w ov rot a0 a1 a2 m) : InsText E f st sz w zs where
  fin := by
    intro s x n k new sa sz0 len cap ex xa sx cx exx m r hsE hxE hsrc hk hn1 hcase happ
    subst hsE hxE
    rw [heq]
    unfold insBody
    have e0 : ∃ y, sliceA E.P st (.sl sa sz0 len cap ex) (some (.int .i64 len)) none = some y := by
      rcases hcase with ⟨a, rfl, hx⟩ | ⟨rfl, rfl, rfl⟩
      · exact ⟨_, slice_lo ht hs (hx.imp Eq.symm id) (Nat.le_refl _)⟩
      · exact ⟨_, by simpa using slice_nil_lo (s := sz0) (ex := ex) (k := .i64) ht hs⟩
    obtain ⟨y, e0⟩ := e0
    simp only [e0, Option.bind_some, len_sl ht, eql_int, decide_eq_false (show ¬ (k : Int) = 0 by omega), condA, decide_true, happ]
  room := by
    intro a len cap i k xa sx cx exx cs old new m ha hfit hold hone hx hne hsrc hn1 hk hsz hw0 hzs hil hby hroom
    have hb : len + k ≤ 140737488355328 := Nat.le_trans (Nat.le_mul_of_pos_right _ hw0) hby
    have hnl := srcA_size hsrc
    have hmul : ∀ x y : Nat, x ≤ y → x * sz ≤ y * sz := fun x y h => Nat.mul_le_mul_right _ h
    have hlc := hmul len cap (by omega)
    have hlk := hmul (len + k) cap hroom
    have hil2 := hmul i len (by omega)
    have hadd : ∀ x y : Nat, (x + y) * sz = x * sz + y * sz := fun x y => Nat.add_mul _ _ _
    have hsub : (len - i) * sz = len * sz - i * sz := Nat.mul_sub_right_distrib _ _ _
    have hik := hadd i k
    have hlks := hadd len k
    have hol : old.length = len * sz := by rw [← hold, List.length_take, List.length_drop]; omega
    have hiksz : 0 < k * sz := Nat.mul_pos hk hsz
    rw [heq]
    unfold insBody
    have e1 := slice_lo (a := a) (s := sz) (c := cap) (ex := true) (k := .i64) ht hs (.inl rfl) (show i ≤ len by omega)
    have e2 := slice_hi (a := a) (s := sz) (l := len) (ex := true) (k := .i64) ht hs (.inl rfl) hroom
    have e3 := slice_lo (a := a) (s := sz) (c := cap) (ex := true) (k := .i64) ht hs (.inl rfl) (show i + k ≤ len + k by omega)
    have e4 := slice_lo (a := a) (s := sz) (c := cap) (ex := true) (k := .i64) ht hs (.inl rfl) (show i ≤ len + k by omega)
    have a1 : binA E.P .add ti (.int .i64 (len : Int)) (.int .i64 (k : Int)) = some (.int .i64 ((len + k : Nat) : Int)) := add_i64 (by simp) (by omega) (by omega)
    have a2 : binA E.P .add ti (.int .i64 (i : Int)) (.int .i64 (k : Int)) = some (.int .i64 ((i + k : Nat) : Int)) := add_i64 (by simp) (by omega) (by omega)
    obtain ⟨ds, hx⟩ := hx
    have hcne : cs ≠ [] := by rintro rfl; simp at hfit; omega
    have hovr : ov (.sl (some xa) sx k cx exx) (.sl (some ⟨a.b, a.o + (i + k) * sz⟩) sz (len + k - (i + k)) (cap - (i + k)) true) m = some (.bool false, m) := by
      rw [hov]
      obtain ⟨c0, cs0, rfl⟩ := List.exists_cons_of_ne_nil hcne
      simp only [overlapsH, if_neg hne, hx, ha]
    have hsr1 := srcA_cells (a := ⟨a.b, a.o + i * sz⟩) (s := sz) (l := len + k - i) (c := cap - i) (ex := true) (.inl rfl) ha (by
      have := hadd i (len + k - i)
      rw [show i + (len + k - i) = len + k by omega] at this
      simp only; omega)
    have hmove : ((cs.drop (a.o + i * sz)).take ((len + k - i) * sz)).take ((len - i) * sz) = old.drop (i * sz) := by
      rw [List.take_take, Nat.min_eq_left (hmul _ _ (by omega)), ← hold, List.drop_take, List.drop_drop, hsub]
    have hst1 := st_put (a := ⟨a.b, a.o + (i + k) * sz⟩) (vs := old.drop (i * sz)) ha (by simp only [List.length_drop, hol]; omega)
    have hc1 := copy_st (a := ⟨a.b, a.o + (i + k) * sz⟩) (s := sz) (l := len + k - (i + k)) (c := cap - (i + k)) (ex := true) (.inl rfl) hsr1 (j := len - i) (by omega) (by omega) hmove (by
      rw [List.all_eq_true] at hone ⊢
      exact fun v hv => hone v (List.mem_of_mem_drop hv)) hst1
    generalize hm1 : m.put a.b (some (.cells (cs.take (a.o + (i + k) * sz) ++ old.drop (i * sz) ++ cs.drop (a.o + (i + k) * sz + (old.drop (i * sz)).length)) false)) = m1 at hc1
    generalize hcs1 : cs.take (a.o + (i + k) * sz) ++ old.drop (i * sz) ++ cs.drop (a.o + (i + k) * sz + (old.drop (i * sz)).length) = cs1 at hm1
    have hal := Mem.get_lt ha
    have ha1 : m1.get a.b = some (.cells cs1 false) := by rw [← hm1, Mem.get_put, if_pos ⟨rfl, hal⟩]
    have hl1 : cs1.length = cs.length := by rw [← hcs1]; simp only [List.length_append, List.length_take, List.length_drop, hol]; omega
    have hsr2 : srcA sz (.sl (some xa) sx k cx exx) m1 = some (k, new) := by rw [← hm1, srcA_put hne]; exact hsrc
    have hst2 := st_put (a := ⟨a.b, a.o + i * sz⟩) (vs := new) ha1 (by simp only [hnl, hl1]; omega)
    have hc2 := copy_st (a := ⟨a.b, a.o + i * sz⟩) (s := sz) (l := len + k - i) (c := cap - i) (ex := true) (.inl rfl) hsr2 (j := k) (by omega) hk (List.take_of_length_le (by omega)) hn1 hst2
    simp only [e1, Option.bind_some, len_sl ht, cap_sl ht, eql_int, gtr_int, decide_eq_false (show ¬ (k : Int) = 0 by omega), decide_eq_false (show ¬ (i : Int) = (len : Int) by omega), condA, a1, a2, decide_eq_false (show ¬ (cap : Int) < ((len + k : Nat) : Int) by omega), e2, e3, e4, hovr, unA, Bool.not_false, hc1, hc2]
    refine ⟨_, rfl, by rw [← hm1]; rfl, fun b hb => ?_, ?_⟩
    · rw [Mem.get_put, if_neg (fun h => hb h.1), ← hm1, Mem.get_put, if_neg (fun h => hb h.1)]
    · rw [Mem.get_put, if_pos ⟨rfl, by rw [← hm1]; exact hal⟩]
      congr 2
      have p1 : cs1.take (a.o + i * sz) = cs.take (a.o + i * sz) := by
        rw [← hcs1, List.append_assoc, List.take_append_of_le_length (by simp; omega), List.take_take, Nat.min_eq_left (by omega)]
      have p2 : cs1.drop (a.o + i * sz + new.length) = old.drop (i * sz) ++ cs.drop (a.o + (len + k) * sz) := by
        rw [← hcs1, hnl, List.append_assoc, List.drop_append]
        have hlen : (cs.take (a.o + (i + k) * sz)).length = a.o + (i + k) * sz := by simp; omega
        rw [List.drop_eq_nil_of_le (by rw [hlen]; omega), List.nil_append, hlen, show a.o + i * sz + k * sz - (a.o + (i + k) * sz) = 0 by omega, List.drop_zero]
        congr 2
        simp only [List.length_drop, hol]; omega
      rw [p1, p2]; simp only [List.append_assoc]
  grow := by
    intro a len cap i k xa sx cx exx cs old new m ha hfit hold hone hx hne hsrc hn1 hk hsz hw0 hzs hil hby hlcap hroom
    have hb : len + k ≤ 140737488355328 := Nat.le_trans (Nat.le_mul_of_pos_right _ hw0) hby
    have hnl := srcA_size hsrc
    have hmul : ∀ x y : Nat, x ≤ y → x * sz ≤ y * sz := fun x y h => Nat.mul_le_mul_right _ h
    have hlc := hmul len cap (by omega)
    have hil2 := hmul i len (by omega)
    have hadd : ∀ x y : Nat, (x + y) * sz = x * sz + y * sz := fun x y => Nat.add_mul _ _ _
    have hik := hadd i k
    have hlks := hadd len k
    have hsub : (len - i) * sz = len * sz - i * sz := Nat.mul_sub_right_distrib _ _ _
    have hsub2 : (len + k - i) * sz = (len + k) * sz - i * sz := Nat.mul_sub_right_distrib _ _ _
    have hol : old.length = len * sz := by rw [← hold, List.length_take, List.length_drop]; omega
    have hiksz : 0 < k * sz := Nat.mul_pos hk hsz
    rw [heq]
    unfold insBody
    have e1 := slice_lo (a := a) (s := sz) (c := cap) (ex := true) (k := .i64) ht hs (.inl rfl) (show i ≤ len by omega)
    have e2 := slice_hi (a := a) (s := sz) (l := len) (ex := true) (k := .i64) ht hs (.inl rfl) (show i ≤ cap by omega)
    have a1 : binA E.P .add ti (.int .i64 (len : Int)) (.int .i64 (k : Int)) = some (.int .i64 ((len + k : Nat) : Int)) := add_i64 (by simp) (by omega) (by omega)
    have a2 : binA E.P .add ti (.int .i64 (i : Int)) (.int .i64 (k : Int)) = some (.int .i64 ((i + k : Nat) : Int)) := add_i64 (by simp) (by omega) (by omega)
    have a3 : binA E.P .sub ti (.int .i64 ((len + k : Nat) : Int)) (.int .i64 (i : Int)) = some (.int .i64 ((len + k - i : Nat) : Int)) := sub_i64 (by omega) (by omega) (by omega)
    have hal := Mem.get_lt ha
    have hold2 : (cs.drop a.o).take (i * sz) = old.take (i * sz) := by rw [← hold, List.take_take, Nat.min_eq_left hil2]
    have hz1 : appendZ E.P st (.sl (some a) sz i cap true) (.int .i64 ((len + k - i : Nat) : Int)) m = some (.sl (some ⟨m.next, 0⟩) sz (len + k) (len + k) false, m.alloc (old.take (i * sz) ++ (List.replicate (len + k - i) zs).flatten)) := by
      simp only [appendZ, ht, hz, hs, hw, Option.bind_some, Int.toNat_natCast]
      rw [if_pos ⟨by omega, hzs, hsz, hw0, by omega, by omega, by omega, by rw [show i + (len + k - i) = len + k by omega]; exact hby⟩]
      simp only [ldCells, ha]
      rw [if_pos (by omega), hold2]
      simp only [Option.map_some]
      rw [show i + (len + k - i) = len + k by omega]
    generalize hrow : old.take (i * sz) ++ (List.replicate (len + k - i) zs).flatten = row at hz1
    have hto : (old.take (i * sz)).length = i * sz := by rw [List.length_take]; omega
    have hrl : row.length = (len + k) * sz := by rw [← hrow]; simp only [List.length_append, List.length_flatten, List.map_replicate, List.sum_replicate_nat, hzs, hto]; omega
    have hr0 : (m.alloc row).get m.next = some (.cells row false) := by rw [Mem.get_alloc, if_pos rfl]
    have e5 := slice_lo (a := ⟨m.next, 0⟩) (s := sz) (c := len + k) (ex := false) (k := .i64) ht hs (.inl rfl) (show i ≤ len + k by omega)
    have e6 := slice_lo (a := ⟨m.next, 0⟩) (s := sz) (c := len + k) (ex := false) (k := .i64) ht hs (.inl rfl) (show i + k ≤ len + k by omega)
    simp only [Nat.zero_add] at e5 e6
    obtain ⟨ds, hx⟩ := hx
    have hxl := Mem.get_lt hx
    have hsr1 : srcA sz (.sl (some xa) sx k cx exx) (m.alloc row) = some (k, new) := by
      rw [← hsrc]; unfold srcA ldCells
      simp only [Mem.get_alloc, if_neg (show ¬ xa.b = m.next by omega)]
    have hst1 := st_put (a := ⟨m.next, i * sz⟩) (vs := new) hr0 (by simp only [hnl, hrl]; omega)
    have hc1 := copy_st (a := ⟨m.next, i * sz⟩) (s := sz) (l := len + k - i) (c := len + k - i) (ex := false) (.inl rfl) hsr1 (j := k) (by omega) hk (List.take_of_length_le (by omega)) hn1 hst1
    generalize hcs1 : row.take (i * sz) ++ new ++ row.drop (i * sz + new.length) = row1 at hc1
    generalize hm1 : (m.alloc row).put m.next (some (.cells row1 false)) = m1 at hc1
    have hm1n : m1.next = m.next + 1 := by rw [← hm1]; rfl
    have hr1 : m1.get m.next = some (.cells row1 false) := by rw [← hm1, Mem.get_put, if_pos ⟨rfl, by simp⟩]
    have hoth : ∀ b, b ≠ m.next → m1.get b = m.get b := fun b hb => by rw [← hm1, Mem.get_put, if_neg (fun h => hb h.1), Mem.get_alloc, if_neg hb]
    have ha1 : m1.get a.b = some (.cells cs false) := by rw [hoth _ (by omega)]; exact ha
    have hl1 : row1.length = (len + k) * sz := by rw [← hcs1]; simp only [List.length_append, List.length_take, List.length_drop, hrl, hnl]; omega
    have hsr2 := srcA_cells (a := ⟨a.b, a.o + i * sz⟩) (s := sz) (l := len - i) (c := cap - i) (ex := true) (.inl rfl) ha1 (by simp only [hsub]; omega)
    have hmove : ((cs.drop (a.o + i * sz)).take ((len - i) * sz)).take ((len - i) * sz) = old.drop (i * sz) := by
      rw [List.take_take, Nat.min_self, ← hold, List.drop_take, List.drop_drop, hsub]
    have hst2 := st_put (a := ⟨m.next, (i + k) * sz⟩) (vs := old.drop (i * sz)) hr1 (by simp only [List.length_drop, hol, hl1]; omega)
    have hc2 := copy_st (a := ⟨m.next, (i + k) * sz⟩) (s := sz) (l := len + k - (i + k)) (c := len + k - (i + k)) (ex := false) (.inl rfl) hsr2 (j := len - i) (by omega) (by omega) hmove (by
      rw [List.all_eq_true] at hone ⊢
      exact fun v hv => hone v (List.mem_of_mem_drop hv)) hst2
    simp only [e1, Option.bind_some, len_sl ht, cap_sl ht, eql_int, gtr_int, decide_eq_false (show ¬ (k : Int) = 0 by omega), decide_eq_false (show ¬ (i : Int) = (len : Int) by omega), condA, a1, a2, a3, decide_eq_true (show (cap : Int) < ((len + k : Nat) : Int) by omega), e2, hz1, e5, e6, hc1, hc2]
    refine ⟨_, rfl, by simp [hm1n], fun b hb => ?_, ?_⟩
    · rw [Mem.get_put, if_neg (fun h => hb h.1)]; exact hoth b hb
    · rw [Mem.get_put, if_pos ⟨rfl, by omega⟩]
      congr 2
      have hri : row.take (i * sz) = old.take (i * sz) := by rw [← hrow, List.take_append_of_le_length (by omega), List.take_take, Nat.min_self]
      have p1 : row1.take ((i + k) * sz) = old.take (i * sz) ++ new := by
        rw [← hcs1, hri, List.take_append_of_le_length (by simp only [List.length_append, hto, hnl]; omega), List.take_of_length_le (by simp only [List.length_append, hto, hnl]; omega)]
      have p3 : row1.drop ((i + k) * sz + (old.drop (i * sz)).length) = [] := List.drop_eq_nil_of_le (by simp only [List.length_drop, hol, hl1]; omega)
      rw [p1, p3, List.append_nil]
end Go.Abs
end
section
namespace Go.Proofs.YtolmealocdgdhaaGreat
open Go Go.Abs
set_option maxRecDepth 4000
theorem ins260 : InsText E0 260 342 1 8 ((zeroA Tryz.prog 22).getD []) :=
  ins_text (E := E0) (ti := 3) (e := 22) (ov := fun v s m => run E0 (.fn 346) [v, s] m) (rot := fun v k m => run E0 (.fn 347) [v, k] m) (by kernel_rfl) (by kernel_rfl) (by kernel_rfl) (by kernel_rfl)
    (fun v s m => run_hook (E := E0) (h := overlapsH) rfl [v, s] m) (fun a0 a1 a2 m => by
      simp only [f260_eq, g260_0_eq, g260_1_eq, g260_2_eq, g260_3_eq]
      rfl)
theorem ins261 : InsText E0 261 394 4 32 ((zeroA Tryz.prog 254).getD []) :=
  ins_text (E := E0) (ti := 3) (e := 254) (ov := fun v s m => run E0 (.fn 348) [v, s] m) (rot := fun v k m => run E0 (.fn 349) [v, k] m) (by kernel_rfl) (by kernel_rfl) (by kernel_rfl) (by kernel_rfl)
    (fun v s m => run_hook (E := E0) (h := overlapsH) rfl [v, s] m) (fun a0 a1 a2 m => by
      simp only [f261_eq, g261_0_eq, g261_1_eq, g261_2_eq, g261_3_eq]
      rfl)
theorem ins383 : InsText E0 383 343 1 16 ((zeroA Tryz.prog 9).getD []) :=
  ins_text (E := E0) (ti := 3) (e := 9) (ov := fun v s m => run E0 (.fn 435) [v, s] m) (rot := fun v k m => run E0 (.fn 436) [v, k] m) (by kernel_rfl) (by kernel_rfl) (by kernel_rfl) (by kernel_rfl)
    (fun v s m => run_hook (E := E0) (h := overlapsH) rfl [v, s] m) (fun a0 a1 a2 m => by
      simp only [f383_eq, g383_0_eq, g383_1_eq, g383_2_eq, g383_3_eq]
      rfl)
theorem ins384 : InsText E0 384 93 4 40 ((zeroA Tryz.prog 92).getD []) :=
  ins_text (E := E0) (ti := 3) (e := 92) (ov := fun v s m => run E0 (.fn 437) [v, s] m) (rot := fun v k m => run E0 (.fn 438) [v, k] m) (by kernel_rfl) (by kernel_rfl) (by kernel_rfl) (by kernel_rfl)
    (fun v s m => run_hook (E := E0) (h := overlapsH) rfl [v, s] m) (fun a0 a1 a2 m => by
      simp only [f384_eq, g384_0_eq, g384_1_eq, g384_2_eq, g384_3_eq]
      rfl)
theorem ins385 : InsText E0 385 97 9 88 ((zeroA Tryz.prog 189).getD []) :=
  ins_text (E := E0) (ti := 3) (e := 189) (ov := fun v s m => run E0 (.fn 439) [v, s] m) (rot := fun v k m => run E0 (.fn 440) [v, k] m) (by kernel_rfl) (by kernel_rfl) (by kernel_rfl) (by kernel_rfl)
    (fun v s m => run_hook (E := E0) (h := overlapsH) rfl [v, s] m) (fun a0 a1 a2 m => by
      simp only [f385_eq, g385_0_eq, g385_1_eq, g385_2_eq, g385_3_eq]
      rfl)
theorem ins386 : InsText E0 386 96 4 40 ((zeroA Tryz.prog 95).getD []) :=
  ins_text (E := E0) (ti := 3) (e := 95) (ov := fun v s m => run E0 (.fn 441) [v, s] m) (rot := fun v k m => run E0 (.fn 442) [v, k] m) (by kernel_rfl) (by kernel_rfl) (by kernel_rfl) (by kernel_rfl)
    (fun v s m => run_hook (E := E0) (h := overlapsH) rfl [v, s] m) (fun a0 a1 a2 m => by
      simp only [f386_eq, g386_0_eq, g386_1_eq, g386_2_eq, g386_3_eq]
      rfl)
theorem ins387 : InsText E0 387 228 4 48 ((zeroA Tryz.prog 324).getD []) :=
  ins_text (E := E0) (ti := 3) (e := 324) (ov := fun v s m => run E0 (.fn 443) [v, s] m) (rot := fun v k m => run E0 (.fn 444) [v, k] m) (by kernel_rfl) (by kernel_rfl) (by kernel_rfl) (by kernel_rfl)
    (fun v s m => run_hook (E := E0) (h := overlapsH) rfl [v, s] m) (fun a0 a1 a2 m => by
      simp only [f387_eq, g387_0_eq, g387_1_eq, g387_2_eq, g387_3_eq]
      rfl)
end Go.Proofs.YtolmealocdgdhaaGreat
end
section
namespace Go.Proofs.YtolmealocdgdhaaGreat
open Go Go.Abs
set_option maxRecDepth 4000
noncomputable def H (f : FuncId) : Option (List AV → Mem → R) :=
  match f with
  | 312 => some add64H
  | 346 => some overlapsH
  | 348 => some overlapsH
  | 435 => some overlapsH
  | 437 => some overlapsH
  | 439 => some overlapsH
  | 441 => some overlapsH
  | 443 => some overlapsH
  | 486 => some sub64H
  | 260 => some (insH Tryz.prog 342)
  | 261 => some (insH Tryz.prog 394)
  | 383 => some (insH Tryz.prog 343)
  | 384 => some (insH Tryz.prog 93)
  | 385 => some (insH Tryz.prog 97)
  | 386 => some (insH Tryz.prog 96)
  | 387 => some (insH Tryz.prog 228)
  | _ => none
noncomputable def E : Env := envOf Tryz.prog hints H
theorem E_ok : EnvOk E := envOf_ok (by kernel_rfl) 531 (fun f h => by
    unfold hints; rw [List.getElem?_eq_none (by show 531 ≤ f; exact h)]; rfl) looks (fun f h e => by
    unfold H at e
    split at e
    · have e1 := Option.some.inj e; subst e1; exact add64_ok (P := Tryz.prog) (fn := Tryz.f312) Tryz.func312 (by kernel_rfl) (by kernel_rfl) (by kernel_rfl) (by kernel_rfl)
    · have e1 := Option.some.inj e; subst e1; exact overlaps_ok (P := Tryz.prog) (fn := Tryz.f346) (st := 342) (tr := 4) (e := 22) (sz := 1) Tryz.func346 (by kernel_rfl) (by kernel_rfl) (by kernel_rfl) (by kernel_rfl) (by kernel_rfl) (by kernel_rfl)
    · have e1 := Option.some.inj e; subst e1; exact overlaps_ok (P := Tryz.prog) (fn := Tryz.f348) (st := 394) (tr := 4) (e := 254) (sz := 4) Tryz.func348 (by kernel_rfl) (by kernel_rfl) (by kernel_rfl) (by kernel_rfl) (by kernel_rfl) (by kernel_rfl)
    · have e1 := Option.some.inj e; subst e1; exact overlaps_ok (P := Tryz.prog) (fn := Tryz.f435) (st := 343) (tr := 4) (e := 9) (sz := 1) Tryz.func435 (by kernel_rfl) (by kernel_rfl) (by kernel_rfl) (by kernel_rfl) (by kernel_rfl) (by kernel_rfl)
    · have e1 := Option.some.inj e; subst e1; exact overlaps_ok (P := Tryz.prog) (fn := Tryz.f437) (st := 93) (tr := 4) (e := 92) (sz := 4) Tryz.func437 (by kernel_rfl) (by kernel_rfl) (by kernel_rfl) (by kernel_rfl) (by kernel_rfl) (by kernel_rfl)
    · have e1 := Option.some.inj e; subst e1; exact overlaps_ok (P := Tryz.prog) (fn := Tryz.f439) (st := 97) (tr := 4) (e := 189) (sz := 9) Tryz.func439 (by kernel_rfl) (by kernel_rfl) (by kernel_rfl) (by kernel_rfl) (by kernel_rfl) (by kernel_rfl)
    · have e1 := Option.some.inj e; subst e1; exact overlaps_ok (P := Tryz.prog) (fn := Tryz.f441) (st := 96) (tr := 4) (e := 95) (sz := 4) Tryz.func441 (by kernel_rfl) (by kernel_rfl) (by kernel_rfl) (by kernel_rfl) (by kernel_rfl) (by kernel_rfl)
    · have e1 := Option.some.inj e; subst e1; exact overlaps_ok (P := Tryz.prog) (fn := Tryz.f443) (st := 228) (tr := 4) (e := 324) (sz := 4) Tryz.func443 (by kernel_rfl) (by kernel_rfl) (by kernel_rfl) (by kernel_rfl) (by kernel_rfl) (by kernel_rfl)
    · have e1 := Option.some.inj e; subst e1; exact sub64_ok (P := Tryz.prog) (fn := Tryz.f486) Tryz.func486 (by kernel_rfl) (by kernel_rfl) (by kernel_rfl) (by kernel_rfl)
    · have e1 := Option.some.inj e; subst e1; exact insert_ok (E := E0) E0_ok (st := 342) (e := 22) (by kernel_rfl) (by kernel_rfl) (by kernel_rfl) (by kernel_rfl) ⟨Tryz.f260, Tryz.func260, by kernel_rfl, by decide +kernel⟩ ins260
    · have e1 := Option.some.inj e; subst e1; exact insert_ok (E := E0) E0_ok (st := 394) (e := 254) (by kernel_rfl) (by kernel_rfl) (by kernel_rfl) (by kernel_rfl) ⟨Tryz.f261, Tryz.func261, by kernel_rfl, by decide +kernel⟩ ins261
    · have e1 := Option.some.inj e; subst e1; exact insert_ok (E := E0) E0_ok (st := 343) (e := 9) (by kernel_rfl) (by kernel_rfl) (by kernel_rfl) (by kernel_rfl) ⟨Tryz.f383, Tryz.func383, by kernel_rfl, by decide +kernel⟩ ins383
    · have e1 := Option.some.inj e; subst e1; exact insert_ok (E := E0) E0_ok (st := 93) (e := 92) (by kernel_rfl) (by kernel_rfl) (by kernel_rfl) (by kernel_rfl) ⟨Tryz.f384, Tryz.func384, by kernel_rfl, by decide +kernel⟩ ins384
    · have e1 := Option.some.inj e; subst e1; exact insert_ok (E := E0) E0_ok (st := 97) (e := 189) (by kernel_rfl) (by kernel_rfl) (by kernel_rfl) (by kernel_rfl) ⟨Tryz.f385, Tryz.func385, by kernel_rfl, by decide +kernel⟩ ins385
    · have e1 := Option.some.inj e; subst e1; exact insert_ok (E := E0) E0_ok (st := 96) (e := 95) (by kernel_rfl) (by kernel_rfl) (by kernel_rfl) (by kernel_rfl) ⟨Tryz.f386, Tryz.func386, by kernel_rfl, by decide +kernel⟩ ins386
    · have e1 := Option.some.inj e; subst e1; exact insert_ok (E := E0) E0_ok (st := 228) (e := 324) (by kernel_rfl) (by kernel_rfl) (by kernel_rfl) (by kernel_rfl) ⟨Tryz.f387, Tryz.func387, by kernel_rfl, by decide +kernel⟩ ins387
    · cases e)
end Go.Proofs.YtolmealocdgdhaaGreat
end
section
namespace Go.Abs
open Go

inductive CM where
  | ret (v : AV)
  | fail
  | resC (P : Program) (rs : List ResultVar) (vs : List AV)
  | pu (e : Option AV) (K : AV → CM)
  | rm (e : Mem → Option AV) (K : AV → CM)
  | al (e : Option (Blk × (Nat → AV))) (K : AV → CM)
  | ef (e : Mem → R) (K : AV → CM)
  | st (e : Mem → Option Mem) (K : CM)
  | call (f : Nat) (az : List AV) (K : AV → CM)
  | callv (fv : AV) (az : List AV) (K : AV → CM)
  | ifv (v : AV) (x y : CM)
  | cond (v : AV) (x y : CM)
  | memo (K : Mem → CM)
  | chk (e : Option AV) (v : AV) (K : CM)
  | go (key : Nat) (ts : List AV)
  | rng (md : Md) (fv : AV) (l : LoopA) (key : Nat) (ts : List AV)
  | nxt (x : AV) (K : AV → CM)

structure Do where
  call : CallF
  gor : Nat → List AV → Mem → R
  afr : Nat → Option Jmp → List AV → Mem → R

noncomputable def bindA {α : Type} (e : Option α) (K : α → R) : R := Option.rec (motive := fun _ => R) none K e

noncomputable def interp (d : Do) (c : CM) : Mem → R :=
  CM.rec (motive := fun _ => Mem → R)
    (fun v m => some (v, m))
    (fun _ => none)
    (fun P rs vs m => Option.rec (motive := fun _ => R) none (fun vs => some (tupA vs, m)) (resA P rs vs m))
    (fun e _ ih m => Option.rec (motive := fun _ => R) none (fun v => ih v m) e)
    (fun e _ ih m => Option.rec (motive := fun _ => R) none (fun v => ih v m) (e m))
    (fun e _ ih m => Option.rec (motive := fun _ => R) none (fun c => ih (c.2 m.next) (m.lay c.1)) e)
    (fun e _ ih m => Option.rec (motive := fun _ => R) none (fun r => ih r.1 r.2) (e m))
    (fun e _ ih m => Option.rec (motive := fun _ => R) none (fun m => ih m) (e m))
    (fun f az _ ih m => Option.rec (motive := fun _ => R) none (fun r => ih r.1 r.2) (d.call (.fn f) az m))
    (fun fv az _ ih m => Option.rec (motive := fun _ => R) none (fun r => ih r.1 r.2) (callA d.call fv az m))
    (fun v _ _ x y m => ifV v (x m) (y m))
    (fun v _ _ x y m => condA v (x m) (y m))
    (fun _ ih m => ih m m)
    (fun e v _ ih m => if e = some v then ih m else none)
    (fun k ts m => d.gor k ts m)
    (fun md fv l k ts m => rangeK d.call md fv l m fun j m => d.afr k j ts m)
    (fun x _ ih m => nextR x m ih)
    c

section
variable {d : Do} {m : Mem}
theorem interp_ret (v : AV) : interp d (.ret v) m = some (v, m) := rfl
theorem interp_fail : interp d .fail m = none := rfl
theorem interp_resC (P : Program) (rs : List ResultVar) (vs : List AV) : interp d (.resC P rs vs) m = (resA P rs vs m).bind fun vs => some (tupA vs, m) := by
  cases h : resA P rs vs m <;> simp [interp, h]
theorem interp_pu (e : Option AV) (K : AV → CM) : interp d (.pu e K) m = e.bind fun v => interp d (K v) m := by cases e <;> rfl
theorem interp_rm (e : Mem → Option AV) (K : AV → CM) : interp d (.rm e K) m = (e m).bind fun v => interp d (K v) m := by
  show Option.rec (motive := fun _ => R) none (fun v => interp d (K v) m) (e m) = _
  cases e m <;> rfl
theorem interp_al (e : Option (Blk × (Nat → AV))) (K : AV → CM) : interp d (.al e K) m = e.bind fun c => interp d (K (c.2 m.next)) (m.lay c.1) := by cases e <;> rfl
theorem interp_ef (e : Mem → R) (K : AV → CM) : interp d (.ef e K) m = (e m).bind fun r => interp d (K r.1) r.2 := by
  show Option.rec (motive := fun _ => R) none (fun r => interp d (K r.1) r.2) (e m) = _
  cases e m <;> rfl
theorem interp_st (e : Mem → Option Mem) (K : CM) : interp d (.st e K) m = (e m).bind fun m => interp d K m := by
  show Option.rec (motive := fun _ => R) none (fun m => interp d K m) (e m) = _
  cases e m <;> rfl
theorem interp_call (f : Nat) (az : List AV) (K : AV → CM) : interp d (.call f az K) m = (d.call (.fn f) az m).bind fun r => interp d (K r.1) r.2 := by
  show Option.rec (motive := fun _ => R) none (fun r => interp d (K r.1) r.2) (d.call (.fn f) az m) = _
  cases d.call (.fn f) az m <;> rfl
theorem interp_callv (fv : AV) (az : List AV) (K : AV → CM) : interp d (.callv fv az K) m = (callA d.call fv az m).bind fun r => interp d (K r.1) r.2 := by
  show Option.rec (motive := fun _ => R) none (fun r => interp d (K r.1) r.2) (callA d.call fv az m) = _
  cases callA d.call fv az m <;> rfl
theorem interp_ifv (v : AV) (x y : CM) : interp d (.ifv v x y) m = ifV v (interp d x m) (interp d y m) := rfl
theorem interp_cond (v : AV) (x y : CM) : interp d (.cond v x y) m = condA v (interp d x m) (interp d y m) := rfl
theorem interp_memo (K : Mem → CM) : interp d (.memo K) m = interp d (K m) m := rfl
theorem interp_chk (e : Option AV) (v : AV) (K : CM) : interp d (.chk e v K) m = if e = some v then interp d K m else none := rfl
theorem interp_go (k : Nat) (ts : List AV) : interp d (.go k ts) m = d.gor k ts m := rfl
theorem interp_rng (md : Md) (fv : AV) (l : LoopA) (k : Nat) (ts : List AV) : interp d (.rng md fv l k ts) m = rangeK d.call md fv l m fun j m => d.afr k j ts m := rfl
theorem interp_nxt (x : AV) (K : AV → CM) : interp d (.nxt x K) m = nextR x m fun v m => interp d (K v) m := rfl
end

theorem Le.bindA {α : Type} {f g : Option α} {F G : α → R} (h : Le f g) (hF : ∀ x, Le (F x) (G x)) : Le (bindA f F) (bindA g G) := by
  have e : ∀ (o : Option α) (K : α → R), Abs.bindA o K = o.bind K := fun o K => by cases o <;> rfl
  rw [e, e]; exact h.bind hF

abbrev p1 {α : Type} (F : α → Option AV) (x : α) : Option AV := (some x).bind F
abbrev p2 (F : AV → AV → Option AV) (x y : AV) : Option AV := (some x).bind fun a => (some y).bind fun b => F a b
abbrev p3 (F : AV → AV → AV → Option AV) (x y z : AV) : Option AV := (some x).bind fun a => (some y).bind fun b => (some z).bind fun c => F a b c
abbrev q1 (F : AV → Mem → Option AV) (x : AV) (m : Mem) : Option AV := (some x).bind fun a => F a m
abbrev q2 (F : AV → AV → Mem → Option AV) (x y : AV) (m : Mem) : Option AV := (some x).bind fun a => (some y).bind fun b => F a b m
noncomputable abbrev apE (k w : Nat) (s x : AV) (m : Mem) : R := (some (k, w)).bind fun nw => appendA nw.1 nw.2 s x m

structure Do.Le (d e : Do) : Prop where
  call : ∀ t az m, Abs.Le (d.call t az m) (e.call t az m)
  gor : ∀ k ts m, Abs.Le (d.gor k ts m) (e.gor k ts m)
  afr : ∀ k j ts m, Abs.Le (d.afr k j ts m) (e.afr k j ts m)

theorem Le.rangeK {c c' : CallF} (h : ∀ f a m, Le (c f a m) (c' f a m)) (md : Md) (fv : AV) (l : LoopA) (m : Mem) {go go' : Option Jmp → Mem → R} (hg : ∀ j m, Le (go j m) (go' j m)) :
    Le (Abs.rangeK c md fv l m go) (Abs.rangeK c' md fv l m go') := by
  unfold Abs.rangeK
  split
  · split
    · refine .bind (h _ _ _) fun r => ?_
      unfold rangeEnd
      split
      · split
        · exact .none _
        · exact hg _ _
      · exact .none _
    · exact .none _
  · exact .none _

theorem Le.meetR {M n : Nat} {f g : Nat → R} (h : ∀ i, Le (f i) (g i)) : Le (Abs.meetR M n f) (Abs.meetR M n g) := fun r hr => by
  rw [← hr]
  refine (meetR_congr fun i hi => ?_).symm
  obtain ⟨mi, h1, _⟩ := meetR_some hr i hi
  rw [h1]
  exact (h i _ h1).symm
theorem Le.nextR (x : AV) (m : Mem) {K K' : AV → Mem → R} (hK : ∀ v m, Le (K v m) (K' v m)) : Le (Abs.nextR x m K) (Abs.nextR x m K') := by
  unfold Abs.nextR
  split
  · split
    · split
      · split
        · split
          · exact hK _ _
          · exact .meetR fun i => hK _ _
        · exact .none _
      · exact .none _
    · exact .none _
  · exact .none _

theorem interp_le {d e : Do} (h : d.Le e) (c : CM) : ∀ m, Le (interp d c m) (interp e c m) := by
  induction c with
  | ret _ | fail | resC _ _ _ => exact fun m => .refl _
  | pu _ _ ih => exact fun m => Le.bindA (.refl _) fun v => ih v m
  | rm _ _ ih => exact fun m => Le.bindA (.refl _) fun v => ih v m
  | al _ _ ih => exact fun m => Le.bindA (.refl _) fun v => ih _ _
  | ef _ _ ih => exact fun m => Le.bindA (.refl _) fun v => ih _ _
  | st _ _ ih => exact fun m => Le.bindA (.refl _) fun v => ih _
  | call _ _ _ ih => exact fun m => Le.bindA (h.call _ _ _) fun v => ih _ _
  | callv fv az _ ih =>
    intro m
    refine Le.bindA ?_ fun v => ih _ _
    unfold callA
    split
    · exact h.call _ _ _
    · exact h.call _ _ _
    · exact .none _
  | ifv v _ _ x y =>
    intro m
    show Le (ifV v _ _) (ifV v _ _)
    unfold ifV
    split
    · exact x m
    · exact y m
    · exact .none _
  | cond v _ _ x y =>
    intro m
    show Le (condA v _ _) (condA v _ _)
    unfold condA
    split
    · exact x m
    · exact y m
    · exact .none _
  | memo _ ih => exact fun m => ih m m
  | chk e v _ ih =>
    intro m
    show Le (if e = some v then _ else _) (if e = some v then _ else _)
    split
    · exact ih m
    · exact .none _
  | go _ _ => exact fun m => h.gor _ _ _
  | rng md fv l k ts => exact fun m => Le.rangeK h.call _ _ _ _ fun j m => h.afr _ _ _ _
  | nxt x _ ih => exact fun m => Le.nextR _ _ fun v m => ih v m


def spread : List Bool → List AV → List AV
  | true :: bs, v :: vs => v :: spread bs vs
  | true :: bs, [] => .undef :: spread bs []
  | false :: bs, vs => .undef :: spread bs vs
  | [], _ => []

def bM (n x : Nat) : List Bool := (List.range n).map (Nat.testBit x)

noncomputable def goR (E : Env) (M : Nat → List Bool) (k : Nat) (ts : List AV) (m : Mem) : R := goAt E (k / 4096) (k % 4096) (spread (M k) ts) m
noncomputable def afR (E : Env) (M : Nat → List Bool) (k : Nat) (j : Option Jmp) (ts : List AV) (m : Mem) : R := afterAt E (k / 4096) (k % 4096) j (spread (M k) ts) m
noncomputable def real (E : Env) (M N : Nat → List Bool) : Do := ⟨run E, goR E M, afR E N⟩

theorem goR_eq {E : Env} {M : Nat → List Bool} {k : Nat} (n : Nat) {ts : List AV} {m : Mem} {r : R}
    (h : goC E (run E) (mdR (rsOf E (k / 4096))) (go E (mdR (rsOf E (k / 4096)))) n (kAt E (k / 4096) (k % 4096)) (spread (M k) ts) m = r) : goR E M k ts m = r := goAt_eq n h
theorem afR_eq {E : Env} {M : Nat → List Bool} {k : Nat} {j : Option Jmp} (n : Nat) {ts : List AV} {m : Mem} {r : R}
    (h : goC E (run E) (mdR (rsOf E (k / 4096))) (go E (mdR (rsOf E (k / 4096)))) n (pend j (kLoop E (k / 4096) (k % 4096))) (spread (M k) ts) m = r) : afR E M k j ts m = r := afterAt_eq n h


noncomputable def apS (F : AV → List AV → CM) (l : List AV) : CM := List.rec (motive := fun _ => CM) .fail (fun a l _ => F a l) l
noncomputable def ap0 (c : CM) (l : List AV) : CM := List.rec (motive := fun _ => CM) c (fun _ _ _ => .fail) l

theorem apS_cons (F : AV → List AV → CM) (a : AV) (l : List AV) : apS F (a :: l) = F a l := rfl
theorem ap0_nil (c : CM) : ap0 c [] = c := rfl

def LeD (d : Do) (D : List AV → CM) (g : List AV → Mem → R) : Prop := ∀ l m, Le (interp d (D l) m) (g l m)
theorem apS_le {d : Do} {F : AV → List AV → CM} {g : List AV → Mem → R} (h : ∀ a, LeD d (F a) fun l => g (a :: l)) : LeD d (apS F) g := fun l m => by
  cases l with
  | nil => exact .none _
  | cons a l => exact h a l m
theorem ap0_le {d : Do} {c : CM} {g : List AV → Mem → R} (h : ∀ m, g [] m = interp d c m) : LeD d (ap0 c) g := fun l m => by
  cases l with
  | nil => show Le (interp d c m) (g [] m); rw [h]; exact .refl _
  | cons a l => exact .none _
def EqD (d : Do) (D : List AV → CM) (g : List AV → Mem → R) : Prop := ∀ l m, g l m = interp d (D l) m ∨ D l = .fail
theorem sE {d : Do} {F : AV → List AV → CM} {g : List AV → Mem → R} (h : ∀ a, EqD d (F a) fun l => g (a :: l)) : EqD d (apS F) g := fun l m => by
  cases l with
  | nil => exact .inr rfl
  | cons a l => exact h a l m
theorem zE {d : Do} {c : CM} {g : List AV → Mem → R} (h : ∀ m, g [] m = interp d c m) : EqD d (ap0 c) g := fun l m => by
  cases l with
  | nil => exact .inl (h m)
  | cons a l => exact .inr rfl
theorem EqD.le {d : Do} {D : List AV → CM} {g : List AV → Mem → R} (h : EqD d D g) : LeD d D g := fun l m => by
  cases h l m with
  | inl e => rw [e]; exact .refl _
  | inr e => rw [e]; exact .none _
theorem fail_le {d : Do} {g : List AV → Mem → R} : LeD d (fun _ => .fail) g := fun _ _ => .none _

theorem all_nil {α : Type} {p : α → Prop} : ∀ x ∈ ([] : List α), p x := fun _ h => by simp at h
theorem all_cons {α : Type} {p : α → Prop} {a : α} {l : List α} (h : p a) (h' : ∀ x ∈ l, p x) : ∀ x ∈ a :: l, p x := fun x hx => by
  cases hx with
  | head => exact h
  | tail _ hx => exact h' x hx

def pB (b : Nat) : AV := .ptr (some ⟨b, 0⟩)
def sB (n len : Nat) (b : Nat) : AV := .sl (some ⟨b, 0⟩) n len len true
def mB (b : Nat) : AV := .map (some b)


inductive BT (α : Type) where
  | leaf
  | node (k : Nat) (v : α) (l r : BT α)

noncomputable def BT.find {α : Type} (t : BT α) (q : Nat) : Option α :=
  BT.rec (motive := fun _ => Option α) none (fun k v _ _ l r => Bool.rec (motive := fun _ => Option α) (Bool.rec (motive := fun _ => Option α) r l (Nat.ble q k)) (some v) (Nat.beq q k)) t

structure Tb where
  fn : Nat → Option (List AV → CM)
  gor : Nat → Option (List AV → CM)
  afr : Nat → Option Jmp → Option (List AV → CM)

structure Tb.Ok (T : Tb) (E : Env) (M N : Nat → List Bool) : Prop where
  fn : ∀ f D, T.fn f = some D → LeD (real E M N) D fun az m => run E (.fn f) az m
  gor : ∀ k D, T.gor k = some D → LeD (real E M N) D fun ts m => goR E M k ts m
  afr : ∀ k j D, T.afr k j = some D → LeD (real E M N) D fun ts m => afR E N k j ts m

noncomputable def slowF (E : Env) (call : CallF) (n : Nat) (f : Nat) (az : List AV) (m : Mem) : R :=
  match E.H f with
  | some h => h az m
  | none => match E.B f with
    | some (rs, nt, c) => goF E call (.fn rs) n [.code c] (az ++ List.replicate (nt - az.length) .undef) m
    | none => none
noncomputable def slowY (E : Env) (call : CallF) (n : Nat) (b : Nat) (az : List AV) (m : Mem) : R := roundK m b az fun k t => goF E call (.rd b) n k t m

noncomputable def stepD (E : Env) (T : Tb) (n : Nat) (d : Do) : Do where
  call t az m := Tg.rec (motive := fun _ => R) (fun f => Option.rec (motive := fun _ => R) (slowF E d.call n f az m) (fun D => interp d (D az) m) (T.fn f)) (fun b => slowY E d.call n b az m) t
  gor k ts m := Option.rec (motive := fun _ => R) none (fun D => interp d (D ts) m) (T.gor k)
  afr k j ts m := Option.rec (motive := fun _ => R) none (fun D => interp d (D ts) m) (T.afr k j)
noncomputable def XD (E : Env) (T : Tb) (n : Nat) : Do := Nat.rec (motive := fun _ => Do) ⟨fun _ _ _ => none, fun _ _ _ => none, fun _ _ _ _ => none⟩ (fun n d => stepD E T n d) n

theorem Le.stepK {E : Env} {c c' : CallF} (h : ∀ f a m, Le (c f a m) (c' f a m)) {κ κ' : List AI → List AV → Mem → R} (hκ : ∀ k t m, Le (κ k t m) (κ' k t m)) (md : Md) (k : List AI) (t : List AV) (m : Mem) :
    Le (Abs.stepK E c md k t m κ) (Abs.stepK E c' md k t m κ') := by
  have hl : Lim (fun n => Abs.stepK E (if n = 0 then c else c') md k t m (if n = 0 then κ else κ')) (Abs.stepK E c' md k t m κ') := by
    refine Lim.stepK (call := fun n => if n = 0 then c else c') (κ := fun n => if n = 0 then κ else κ') ?_ md k t m ?_
    · intro f a m
      refine ⟨fun n => ?_, fun r hr => ⟨1, fun n hn => ?_⟩⟩
      · by_cases e : n = 0
        · simp only [e, if_true]; exact h _ _ _
        · simp only [e, if_false]; exact .refl _
      · simp only [show n ≠ 0 by omega, if_false]; exact hr
    · intro k t m
      refine ⟨fun n => ?_, fun r hr => ⟨1, fun n hn => ?_⟩⟩
      · by_cases e : n = 0
        · simp only [e, if_true]; exact hκ _ _ _
        · simp only [e, if_false]; exact .refl _
      · simp only [show n ≠ 0 by omega, if_false]; exact hr
  exact hl.1 0

theorem Le.goF {E : Env} {call : CallF} (h : ∀ f a m, Le (call f a m) (run E f a m)) (md : Md) : ∀ (n : Nat) k t m, Le (Abs.goF E call md n k t m) (go E md k t m)
  | 0, _, _, _ => .none _
  | n + 1, k, t, m => by rw [go_step]; exact Le.stepK h (fun k t m => Le.goF h md n k t m) md k t m

theorem slowF_le {E : Env} {call : CallF} (h : ∀ f a m, Le (call f a m) (run E f a m)) (n f : Nat) (az : List AV) (m : Mem) : Le (slowF E call n f az m) (run E (.fn f) az m) := by
  unfold slowF
  split
  · rename_i hH; rw [run_hook hH]; exact .refl _
  · rename_i hH
    split
    · rename_i hB; rw [run_body hH hB]; exact Le.goF h _ _ _ _ _
    · exact .none _
theorem slowY_le {E : Env} {call : CallF} (h : ∀ f a m, Le (call f a m) (run E f a m)) (n b : Nat) (az : List AV) (m : Mem) : Le (slowY E call n b az m) (run E (.yl b) az m) := by
  unfold slowY
  rw [run_round]
  unfold roundK
  split
  · split
    · exact Le.goF h _ _ _ _ _
    · exact .none _
  · exact .none _

theorem XD_le {E : Env} {T : Tb} {M N : Nat → List Bool} (ok : T.Ok E M N) : ∀ n, (XD E T n).Le (real E M N)
  | 0 => ⟨fun _ _ _ => .none _, fun _ _ _ => .none _, fun _ _ _ _ => .none _⟩
  | n + 1 => by
    have ih := XD_le ok n
    refine ⟨fun t az m => ?_, fun k ts m => ?_, fun k j ts m => ?_⟩
    · cases t with
      | fn f =>
        show Le (Option.rec (motive := fun _ => R) (slowF E (XD E T n).call n f az m) (fun D => interp (XD E T n) (D az) m) (T.fn f)) (run E (.fn f) az m)
        cases e : T.fn f with
        | none => exact slowF_le ih.call _ _ _ _
        | some D => exact (interp_le ih _ _).trans (ok.fn _ _ e az m)
      | yl b => exact slowY_le ih.call _ _ _ _
    · show Le (Option.rec (motive := fun _ => R) none (fun D => interp (XD E T n) (D ts) m) (T.gor k)) (goR E M k ts m)
      cases e : T.gor k with
      | none => exact .none _
      | some D => exact (interp_le ih _ _).trans (ok.gor _ _ e ts m)
    · show Le (Option.rec (motive := fun _ => R) none (fun D => interp (XD E T n) (D ts) m) (T.afr k j)) (afR E N k j ts m)
      cases e : T.afr k j with
      | none => exact .none _
      | some D => exact (interp_le ih _ _).trans (ok.afr _ _ _ e ts m)

theorem run_of_X {E : Env} {T : Tb} {M N : Nat → List Bool} (ok : T.Ok E M N) (n : Nat) {t : Tg} {az : List AV} {m : Mem} {r : AV × Mem} (h : (XD E T n).call t az m = some r) : run E t az m = some r :=
  (XD_le ok n).call t az m r h
end Go.Abs
end
section
namespace Go.Abs
open Go

inductive SV where
  | c (a : AV)
  | d (a : AV)
def SV.v : SV → AV
  | .c a => a
  | .d a => a

abbrev Ev := List (Nat × SV)
def fndK {α : Type} (i : Nat) (K : SV → α) : Ev → α
  | [] => K (.c .undef)
  | (j, v) :: l => match Nat.beq j i with
    | true => K v
    | false => fndK i K l
def fnd (i : Nat) (e : Ev) : SV := fndK i (fun v => v) e
theorem fndK_eq {α : Type} (i : Nat) (K : SV → α) : ∀ e : Ev, fndK i K e = K (fnd i e)
  | [] => rfl
  | (j, v) :: l => by
    unfold fnd fndK
    cases Nat.beq j i with
    | true => rfl
    | false => exact fndK_eq i K l
theorem fnd_cons (i j : Nat) (v : SV) (e : Ev) : fnd i ((j, v) :: e) = if j = i then v else fnd i e := by
  show (match Nat.beq j i with | true => v | false => fndK i (fun v => v) e) = _
  rw [beqN]
  by_cases h : j = i
  · rw [decide_eq_true h, if_pos h]
  · rw [decide_eq_false h, if_neg h]; rfl

structure Ops where
  P : Program
  nat : Nat → Nat
  pick : AV → AV → AV → Option AV
  nn : AV → Option AV
  bin : BinOp → Nat → AV → AV → Option AV
  un : UnOp → AV → Option AV
  conv : Nat → Nat → AV → Option AV
  fa : Nat → Nat → AV → Option AV
  fi : Nat → Nat → AV → Option AV
  ia : Nat → AV → AV → Option AV
  ix : Nat → AV → AV → Option AV
  s00 : Nat → AV → Option AV
  s10 : Nat → AV → AV → Option AV
  s01 : Nat → AV → AV → Option AV
  s11 : Nat → AV → AV → AV → Option AV
  s30 : Nat → AV → AV → AV → Option AV
  s31 : Nat → AV → AV → AV → AV → Option AV
  ext : Nat → AV → Option AV
  mi : Nat → AV → Option AV
  bld : Nat → List (Nat × AV) → Option AV
  len : Nat → AV → Option AV
  cap : Nat → AV → Option AV
  mn : AV → AV → Option AV
  mx : AV → AV → Option AV
  ld : Nat → AV → Mem → Option AV
  ts : Nat → AV → Mem → Option AV
  ent : AV → Mem → Option AV
  lk : Nat → Bool → AV → AV → Mem → Option AV
  lm : Nat → AV → Mem → Option AV
  al : List AV → Option (Blk × (Nat → AV))
  mm : Option (Blk × (Nat → AV))
  bx : AV → Option (Blk × (Nat → AV))
  bs : Nat → Nat → List AV → List (Nat × AV) → Option (Blk × (Nat → AV))
  ms : Nat → Nat → List AV → AV → AV → Option (Blk × (Nat → AV))
  sb : AV → Option (Blk × (Nat → AV))
  ap : Nat → Nat → AV → AV → Mem → R
  az : Nat → AV → AV → Mem → R
  cp : Nat → AV → AV → Mem → R
  rg : Nat → AV → Mem → R
  st : Nat → AV → AV → Mem → Option Mem
  mp : Nat → AV → AV → AV → Mem → Option Mem
  mdl : Nat → AV → AV → Mem → Option Mem
  cl : Nat → AV → Mem → Option Mem
  md : Nat → Md
  lo : Nat → Nat → List AV → LoopA

noncomputable def realO (E : Env) : Ops where
  P := E.P
  nat n := n
  pick := p3 pickA
  nn := p1 nnA
  bin op t := p2 (binA E.P op t)
  un op := p1 (unA op)
  conv a b := p1 (convA E.P a b)
  fa s i := p1 fun a => fieldAddrA E.P s a i
  fi s i := p1 fun a => fieldA E.P s a i
  ia s := p2 (indexAddrA E.P s)
  ix s := p2 (indexA E.P s)
  s00 s := p1 fun a => sliceA E.P s a none none
  s10 s := p2 fun a l => sliceA E.P s a (some l) none
  s01 s := p2 fun a h => sliceA E.P s a none (some h)
  s11 s := p3 fun a l h => sliceA E.P s a (some l) (some h)
  s30 s x h m := slice3A E.P s x none h m
  s31 s x l h m := slice3A E.P s x (some l) h m
  ext i := p1 fun a => extractA a i
  mi t := p1 (mkIfaceA E.P t)
  bld s ps := (some ps).bind (buildA E.P s)
  len s := p1 (lenT E.P s)
  cap s := p1 (capT E.P s)
  mn := p2 minA
  mx := p2 maxA
  ld s := q1 (loadA E.P s)
  ts s := q1 (toStrA E.P s)
  ent := q1 entryA
  lk s ok := q2 fun a k => lookupA E.P s a k ok
  lm s := q1 (lenM E.P s)
  al cs := some (.cells cs false, pB)
  mm := some (.map [], mB)
  bx := boxA
  bs := bsA
  ms := msA
  sb := s2bA
  ap := apE
  az := appendZ E.P
  cp := copyA
  rg := rangeA E.P
  st k a v m := stV m a v k
  mp := mapPut E.P
  mdl := mapDel E.P
  cl := clearA E.P
  md f := mdR (rsOf E f)
  lo := loopOf E

section
variable (O : Ops) (P : Program)

def evK (e : Ev) (x : Operand) (K : SV → CM) : CM :=
  match x with
  | .tmp i => fndK i K e
  | .const v => match ofV v with
    | some a => K (.c a)
    | none => .fail
  | .global g => match Nat.blt g P.globals.size with
    | true => K (.d (.ptr (some ⟨g, 0⟩)))
    | false => .fail
  | .func f => K (.d (.fn (.func f) [] []))
def evsK (e : Ev) : List Operand → (List AV → CM) → CM
  | [], K => K []
  | x :: xs, K => evK P e x fun a => evsK e xs fun az => K (a.v :: az)
def partsK (e : Ev) : List (Nat × Operand) → (List (Nat × AV) → CM) → CM
  | [], K => K []
  | (i, x) :: xs, K => evK P e x fun a => partsK e xs fun az => K ((i, a.v) :: az)

def pureK (e : Ev) (op : Op) (K : SV → CM) : CM :=
  match op with
  | .move x | .assign x => evK P e x K
  | .pick c a b => evK P e c fun c => evK P e a fun a => evK P e b fun b => match c with
    | .c (.bool true) => K a
    | .c (.bool false) => K b
    | .c _ => .fail
    | .d c => .pu (O.pick c a.v b.v) fun x => K (.d x)
  | .nilCheck x => evK P e x fun a => .pu (O.nn a.v) fun x => K (.d x)
  | .binOp op xt x y _ => evK P e x fun a => evK P e y fun b => .pu (O.bin op xt a.v b.v) fun x => K (.d x)
  | .unOp op _ x => evK P e x fun a => .pu (O.un op a.v) fun x => K (.d x)
  | .convert s t x => evK P e x fun a => .pu (O.conv s t a.v) fun x => K (.d x)
  | .fieldAddr s x i => evK P e x fun a => .pu (O.fa s i a.v) fun x => K (.d x)
  | .field s x i => evK P e x fun a => .pu (O.fi s i a.v) fun x => K (.d x)
  | .indexAddr s x i => evK P e x fun a => evK P e i fun b => .pu (O.ia s a.v b.v) fun x => K (.d x)
  | .index s x i => evK P e x fun a => evK P e i fun b => .pu (O.ix s a.v b.v) fun x => K (.d x)
  | .slice s x lo hi none => evK P e x fun a =>
    match lo, hi with
    | none, none => .pu (O.s00 s a.v) fun x => K (.d x)
    | some lo, none => evK P e lo fun l => .pu (O.s10 s a.v l.v) fun x => K (.d x)
    | none, some hi => evK P e hi fun h => .pu (O.s01 s a.v h.v) fun x => K (.d x)
    | some lo, some hi => evK P e lo fun l => evK P e hi fun h => .pu (O.s11 s a.v l.v h.v) fun x => K (.d x)
  | .slice s x lo (some hi) (some mx) => evK P e x fun a => evK P e hi fun h => evK P e mx fun m =>
    match lo with
    | none => .pu (O.s30 s a.v h.v m.v) fun x => K (.d x)
    | some lo => evK P e lo fun l => .pu (O.s31 s a.v l.v h.v m.v) fun x => K (.d x)
  | .extract x i => evK P e x fun a => .pu (O.ext i a.v) fun x => K (.d x)
  | .makeInterface xt x => evK P e x fun a => .pu (O.mi xt a.v) fun x => K (.d x)
  | .makeFunc f first cap => evsK P e first.toList fun a => evsK P e cap.toList fun b => K (.d (.fn f a b))
  | .build s parts => partsK P e parts.toList fun ps => .pu (O.bld s ps) fun x => K (.d x)
  | .call { callee := .builtin .len, args := ⟨[x]⟩, argTypes := ⟨[s]⟩ } => evK P e x fun a => .pu (O.len s a.v) fun x => K (.d x)
  | .call { callee := .builtin .cap, args := ⟨[x]⟩, argTypes := ⟨[s]⟩ } => evK P e x fun a => .pu (O.cap s a.v) fun x => K (.d x)
  | .call { callee := .builtin .min, args := ⟨[x, y]⟩, .. } => evK P e x fun a => evK P e y fun b => .pu (O.mn a.v b.v) fun x => K (.d x)
  | .call { callee := .builtin .max, args := ⟨[x, y]⟩, .. } => evK P e x fun a => evK P e y fun b => .pu (O.mx a.v b.v) fun x => K (.d x)
  | _ => .fail

def readK (e : Ev) (op : Op) (K : (Mem → Option AV) → CM) : CM :=
  match op with
  | .load s x => evK P e x fun a => K (O.ld s a.v)
  | .convert s _ x => evK P e x fun a => K (O.ts s a.v)
  | .lookup s x k ok => evK P e x fun a => evK P e k fun k => K (O.lk s ok a.v k.v)
  | .entry x => evK P e x fun a => K (O.ent a.v)
  | .call { callee := .builtin .len, args := ⟨[x]⟩, argTypes := ⟨[s]⟩ } => evK P e x fun a => K (O.lm s a.v)
  | _ => .fail

def allocK (e : Ev) (op : Op) (K : SV → CM) : CM :=
  match op with
  | .alloc t => match zeroA P t with
    | some cs => .al (O.al cs) fun x => K (.d x)
    | none => .fail
  | .box _ x => evK P e x fun a => .al (O.bx a.v) fun x => K (.d x)
  | .makeMap s none => match P.underlying s with
    | some (.map ..) => .al O.mm fun x => K (.d x)
    | _ => .fail
  | .buildSlice s len parts => match P.underlying s with
    | some (.slice t) => match szT P t, zeroA P t with
      | some n, some zs => match Nat.ble (len * n) 16777216 && Nat.beq zs.length n with
        | true => partsK P e parts.toList fun ps => .al (O.bs n len zs ps) fun x => K (.d x)
        | false => .fail
      | _, _ => .fail
    | _ => .fail
  | .makeSlice s l c => evK P e l fun l => evK P e c fun c => match P.underlying s with
    | some (.slice t) => match szT P t, zeroA P t, bytesT P t with
      | some n, some zs, some w => .al (O.ms n w zs l.v c.v) fun x => K (.d x)
      | _, _, _ => .fail
    | _ => .fail
  | .convert s t x => match P.underlying s with
    | some _ => match P.underlying t with
      | some (.slice u) => match P.underlying u, szT P u with
        | some (.int .u8), some 1 => evK P e x fun a => .al (O.sb a.v) fun x => K (.d x)
        | _, _ => .fail
      | _ => .fail
    | none => .fail
  | _ => .fail

def effC (e : Ev) (op : Op) (K : SV → CM) : CM :=
  match op with
  | .store s a v => evK P e a fun a => evK P e v fun v => match szT P s with
    | some n => .st (O.st n a.v v.v) (K (.c .undef))
    | none => .fail
  | .call { callee := .builtin .append, args := ⟨[s, x]⟩, argTypes := ⟨[st, xt]⟩ } => evK P e s fun s => evK P e x fun x => match P.underlying xt with
    | some (.int _) => .ef (O.az st s.v x.v) fun x => K (.d x)
    | _ => match appElem P st xt with
      | some nw => .ef (O.ap nw.1 nw.2 s.v x.v) fun x => K (.d x)
      | none => .fail
  | .call { callee := .builtin .copy, args := ⟨[d, x]⟩, argTypes := ⟨st :: _⟩ } => match copyElem P st with
    | some n => evK P e d fun d => evK P e x fun x => .ef (O.cp n d.v x.v) fun x => K (.d x)
    | none => .fail
  | .mapUpdate s x k v | .insert s x k v => evK P e x fun x => evK P e k fun k => evK P e v fun v => .st (O.mp s x.v k.v v.v) (K (.c .undef))
  | .call { callee := .builtin .delete, args := ⟨[x, k]⟩, argTypes := ⟨s :: _⟩ } => evK P e x fun x => evK P e k fun k => .st (O.mdl s x.v k.v) (K (.c .undef))
  | .call { callee := .builtin .clear, args := ⟨[x]⟩, argTypes := ⟨s :: _⟩ } => evK P e x fun x => .st (O.cl s x.v) (K (.c .undef))
  | .call { callee := .value (.func g), args := ⟨xs⟩, .. } => evsK P e xs fun az => .call g az fun x => K (.d x)
  | .call { callee := .value f, args := ⟨xs⟩, .. } => evK P e f fun f => evsK P e xs fun az => .callv f.v az fun x => K (.d x)
  | .range s x => evK P e x fun x => .ef (O.rg s x.v) fun x => K (.d x)
  | _ => .fail

def aputE (nt : Nat) (e : Ev) (d : Option Tmp) (v : SV) : Ev :=
  match d with
  | some d => match Nat.blt d nt with
    | true => (d, v) :: e
    | false => e
  | none => e

def isEmp : AV → Bool
  | .tup [] => true
  | _ => false

def guardK (nt : Nat) (sk : List Tmp) (ops : List Oper) (o : Oper) (e : Ev) (yes no : Ev → CM) : CM :=
  match o.guard with
  | none => yes e
  | some (j, want) => match (ops[j]?).bind (·.dst) with
    | none => .fail
    | some d => fndK d (fun v => match v with
      | .c (.bool b) => match b, want with
        | true, true => yes (aputE nt e (some d) (.c (.bool true)))
        | true, false => no (aputE nt e (some d) (.c (.bool true)))
        | false, true => no (aputE nt e (some d) (.c (.bool false)))
        | false, false => yes (aputE nt e (some d) (.c (.bool false)))
      | .c (.tup []) => match sk.contains d with
        | true => no e
        | false => .fail
      | .c _ => .fail
      | .d a => match want with
        | true => .ifv a (yes (aputE nt e (some d) (.c (.bool true)))) (no (aputE nt e (some d) (.c (.bool false))))
        | false => .ifv a (no (aputE nt e (some d) (.c (.bool true)))) (yes (aputE nt e (some d) (.c (.bool false))))) e

def opC (e : Ev) (op : Op) (K : SV → CM) : CM :=
  match cls P op with
  | .p => pureK O P e op K
  | .r => readK O P e op fun f => .rm f fun x => K (.d x)
  | .a => allocK O P e op K
  | .e => effC O P e op K

def opsC (nt : Nat) (all : List Oper) : List Oper → List Tmp → Ev → (Ev → CM) → CM
  | [], _, e, K => K e
  | o :: os, sk, e, K =>
    guardK nt sk all o e
      (fun e => opC O P e o.op fun v => opsC nt all os (skDel sk o.dst) (aputE nt e o.dst v) K)
      (fun e => opsC nt all os (o.dst.toList ++ sk) (aputE nt e o.dst (.c (.tup []))) K)

def chkRC (f : Mem → Option AV) (v : AV) (c : List Nat) : List (Nat × Mem) → CM → CM
  | [], K => K
  | (j, m) :: es, K => match c.contains j with
    | true => .chk (f m) v (chkRC f v c es K)
    | false => chkRC f v c es K
def chkEC (m : Mem) (c : List Nat) : List (Nat × (Mem → Option AV) × AV) → CM → CM
  | [], K => K
  | (j, f, v) :: rs, K => match c.contains j with
    | true => .chk (f m) v (chkEC m c rs K)
    | false => chkEC m c rs K

def dopsC (nt : Nat) (all : List Oper) : List (List Nat) → List Oper → List Tmp → Nat → List (Nat × (Mem → Option AV) × AV) → List (Nat × Mem) → Ev → (Ev → CM) → CM
  | c :: cs, o :: os, sk, i, rs, es, e, K =>
    guardK nt sk all o e
      (fun e => match cls P o.op with
        | .p => pureK O P e o.op fun v => dopsC nt all cs os (skDel sk o.dst) (i + 1) rs es (aputE nt e o.dst v) K
        | .r => readK O P e o.op fun f => .rm f fun x =>
            chkRC f x c es (dopsC nt all cs os (skDel sk o.dst) (i + 1) ((i, f, x) :: rs) es (aputE nt e o.dst (.d x)) K)
        | .a => allocK O P e o.op fun v => dopsC nt all cs os (skDel sk o.dst) (i + 1) rs es (aputE nt e o.dst v) K
        | .e => .memo fun m => effC O P e o.op fun v => .memo fun m' =>
            chkEC m' c rs (dopsC nt all cs os (skDel sk o.dst) (i + 1) rs ((i, m) :: es) (aputE nt e o.dst v) K))
      (fun e => dopsC nt all cs os (o.dst.toList ++ sk) (i + 1) rs es (aputE nt e o.dst (.c (.tup []))) K)
  | _, [], _, _, _, _, e, K => K e
  | [], _ :: _, _, _, _, _, _, _ => .fail

inductive IC where
  | skip
  | region (id : Nat) (ops : List Oper) (draw : Bool) (chk anc : List (List Nat))
  | seq (a b : IC)
  | cond (c : Operand) (x y : IC)
  | block (id : Nat) (b : IC)
  | loop (b : IC)
  | rangeFunc (i : Nat) (f : Operand) (ps : List Tmp) (a b : AC)
  | scope (b : IC)
  | exit (id : Nat)
  | ret
  | pt (i : Nat) (live : List Bool) (c : IC)
  | other (c : Code)

def nMarks : AC → Nat
  | .pt _ c => nMarks c + 1
  | .seq a b => nMarks a + nMarks b
  | .cond _ x y => nMarks x + nMarks y
  | .block _ b => nMarks b
  | .loop b => nMarks b
  | .scope b => nMarks b
  | .rangeFunc _ _ a b => nMarks a + nMarks b
  | _ => 0
def nLoops : AC → Nat
  | .pt _ c => nLoops c
  | .seq a b => nLoops a + nLoops b
  | .cond _ x y => nLoops x + nLoops y
  | .block _ b => nLoops b
  | .loop b => nLoops b
  | .scope b => nLoops b
  | .rangeFunc _ _ a b => nLoops a + nLoops b + 1
  | _ => 0
def index : AC → Nat → Nat → IC
  | .skip, _, _ => .skip
  | .region id ops draw chk anc, _, _ => .region id ops draw chk anc
  | .seq a b, n, l => .seq (index a n l) (index b (n + nMarks a) (l + nLoops a))
  | .cond c x y, n, l => .cond c (index x n l) (index y (n + nMarks x) (l + nLoops x))
  | .block id b, n, l => .block id (index b n l)
  | .loop b, n, l => .loop (index b n l)
  | .scope b, n, l => .scope (index b n l)
  | .rangeFunc f ps a b, _, l => .rangeFunc l f ps a b
  | .exit id, _, _ => .exit id
  | .ret, _, _ => .ret
  | .pt live c, n, l => .pt n live (index c (n + 1) l)
  | .other c, _, _ => .other c

def lsK (e : Ev) : List Nat → (List AV → CM) → CM
  | [], K => K []
  | i :: is, K => fndK i (fun v => lsK e is fun vs => K (v.v :: vs)) e
def liveL : Nat → List Bool → List Nat
  | _, [] => []
  | i, true :: bs => i :: liveL (i + 1) bs
  | i, false :: bs => liveL (i + 1) bs
def cutL : Nat → List Bool → List Bool
  | 0, _ => []
  | n + 1, [] => false :: cutL n []
  | n + 1, b :: bs => b :: cutL n bs

def rvI : ResultVar → Nat
  | .tmp i => i
  | .cell a _ => a
def allTmp : List ResultVar → Bool
  | [] => true
  | .tmp _ :: rs => allTmp rs
  | .cell .. :: _ => false
def renum : Nat → List ResultVar → List ResultVar
  | _, [] => []
  | n, .tmp _ :: rs => .tmp n :: renum (n + 1) rs
  | n, .cell _ ty :: rs => .cell n ty :: renum (n + 1) rs
def retK (nt : Nat) (rs : List ResultVar) (e : Ev) : CM := match isDf rs with
  | true => lsK e (List.range nt) fun vs => .ret (.tup vs)
  | false => lsK e (rs.map rvI) fun vs => match allTmp rs with
    | true => .ret (tupA vs)
    | false => .resC O.P (renum 0 rs) vs

def exK (ex : List (Nat × (Ev → CM))) (id : Nat) (e : Ev) : CM :=
  match ex with
  | [] => .fail
  | (j, K) :: ex => match Nat.beq j id with
    | true => K e
    | false => exK ex id e

variable (f nt : Nat) (rs : List ResultVar)
def goK (i : Nat) (live : List Bool) (e : Ev) : CM := lsK e (liveL 0 (cutL nt live)) fun vs => .go (4096 * f + i) vs
def loopK : IC → Ev → CM
  | .pt i live _, e => goK f nt i live e
  | _, _ => .fail

def compC : IC → List (Nat × (Ev → CM)) → (Ev → CM) → Ev → CM
  | .skip, _, K, e => K e
  | .region _ ops draw chk _, _, K, e => match draw with
    | true => dopsC O P nt ops chk ops [] 0 [] [] e K
    | false => match nextOf ops with
      | some (it, d, os) => evK P e it fun x => .nxt x.v fun v => opsC O P nt ops os [] (aputE nt e d (.d v)) K
      | none => opsC O P nt ops ops [] e K
  | .seq a b, ex, K, e => compC a ex (fun e => compC b ex K e) e
  | .cond c x y, ex, K, e => evK P e c fun v => match v with
    | .c (.bool true) => compC x ex K e
    | .c (.bool false) => compC y ex K e
    | .c _ => .fail
    | .d a => .cond a (compC x ex K e) (compC y ex K e)
  | .block id b, ex, K, e => compC b ((id, K) :: ex) K e
  | .loop b, _, _, e => loopK f nt b e
  | .scope b, ex, K, e => compC b ex K e
  | .rangeFunc i fo _ _ _, _, _, e => evK P e fo fun fv => lsK e (List.range nt) fun vs => .rng (O.md f) fv.v (O.lo f i vs) (4096 * f + i) vs
  | .exit id, ex, _, e => exK ex id e
  | .ret, _, _, e => retK O nt rs e
  | .pt i live _, _, _, e => goK f nt i live e
  | .other c, _, K, e => match c with
    | .label _ => K e
    | _ => .fail

def marksC : IC → List (Nat × (Ev → CM)) → (Ev → CM) → List (Nat × List Bool × (Ev → CM))
  | .pt i l c, ex, K => (i, l, fun e => compC O P f nt rs c ex K e) :: marksC c ex K
  | .seq a b, ex, K => marksC a ex (fun e => compC O P f nt rs b ex K e) ++ marksC b ex K
  | .cond _ x y, ex, K => marksC x ex K ++ marksC y ex K
  | .block id b, ex, K => marksC b ((id, K) :: ex) K
  | .loop b, ex, _ => marksC b ex fun e => loopK f nt b e
  | .scope b, ex, K => marksC b ex K
  | _, _, _ => []
def loopsC : IC → List (Nat × (Ev → CM)) → (Ev → CM) → List (Nat × (Ev → CM) × List (Nat × (Ev → CM)))
  | .pt _ _ c, ex, K => loopsC c ex K
  | .seq a b, ex, K => loopsC a ex (fun e => compC O P f nt rs b ex K e) ++ loopsC b ex K
  | .cond _ x y, ex, K => loopsC x ex K ++ loopsC y ex K
  | .block id b, ex, K => loopsC b ((id, K) :: ex) K
  | .loop b, ex, _ => loopsC b ex fun e => loopK f nt b e
  | .scope b, ex, K => loopsC b ex K
  | .rangeFunc i _ _ _ _, ex, K => [(i, K, ex)]
  | _, _, _ => []

noncomputable def apN : Nat → (List AV → CM) → List AV → CM
  | 0, F => ap0 (F [])
  | n + 1, F => apS fun a => apN n fun az => F (a :: az)
def envL : Nat → List AV → Ev
  | _, [] => []
  | i, a :: az => (i, .d a) :: envL (i + 1) az
def envV : List Nat → List AV → Ev
  | i :: is, a :: az => (i, .d a) :: envV is az
  | _, _ => []

structure Ent where
  fn : List AV → CM
  gs : List (Nat × (List AV → CM))
  ls : List (Nat × (List AV → CM) × (List AV → CM) × List (Nat × (List AV → CM)))

noncomputable def entC (na : Nat) (c : IC) : Ent where
  fn := apN na fun az => compC O P f nt rs c [] (fun e => retK O nt rs e) (envL 0 az)
  gs := (marksC O P f nt rs c [] fun e => retK O nt rs e).map fun x => (4096 * f + x.1, apN (liveL 0 (cutL nt x.2.1)).length fun az => x.2.2 (envV (liveL 0 (cutL nt x.2.1)) az))
  ls := (loopsC O P f nt rs c [] fun e => retK O nt rs e).map fun x => (4096 * f + x.1, apN nt (fun az => x.2.1 (envL 0 az)), apN nt (fun az => retK O nt rs (envL 0 az)), x.2.2.map fun y => (y.1, apN nt fun az => exK x.2.2 y.1 (envL 0 az)))
end
end Go.Abs
end
