/- Texts of one claim, put together. -/
import Derived.Test.YtlginbmjiecglaaGreatK7
section
namespace Go.Abs
open Go

section ops
variable {P : Program} {t e : TypeId} {sz : Nat}

theorem len_sl (ht : P.underlying t = some (.slice e)) (a : Option AA) (s l c : Nat) (ex : Bool) : lenT P t (.sl a s l c ex) = some (.int .i64 l) := by simp [lenT, ht]
theorem cap_sl (ht : P.underlying t = some (.slice e)) (a : Option AA) (s l c : Nat) : capT P t (.sl a s l c true) = some (.int .i64 c) := by simp [capT, ht]
theorem slice_lo (ht : P.underlying t = some (.slice e)) (hs : szT P e = some sz) {a : AA} {s l c i : Nat} {ex : Bool} {k : IntKind} (hx : sz = s ∨ ex = true) (hi : i ≤ l) :
    sliceA P t (.sl (some a) s l c ex) (some (.int k (i : Int))) none = some (.sl (some ⟨a.b, a.o + i * sz⟩) sz (l - i) (c - i) ex) := by
  simp [sliceA, ht, hs, hiA, loA, hi, hx]
theorem slice_hi (ht : P.underlying t = some (.slice e)) (hs : szT P e = some sz) {a : AA} {s l c h : Nat} {ex : Bool} {k : IntKind} (hx : sz = s ∨ ex = true) (hh : h ≤ c) :
    sliceA P t (.sl (some a) s l c ex) none (some (.int k (h : Int))) = some (.sl (some a) sz h c ex) := by
  simp [sliceA, ht, hs, hiA, loA, hh, hx]
theorem slice_both (ht : P.underlying t = some (.slice e)) (hs : szT P e = some sz) {a : AA} {s l c i h : Nat} {ex : Bool} {k k' : IntKind} (hx : sz = s ∨ ex = true) (hi : i ≤ h) (hh : h ≤ c) :
    sliceA P t (.sl (some a) s l c ex) (some (.int k (i : Int))) (some (.int k' (h : Int))) = some (.sl (some ⟨a.b, a.o + i * sz⟩) sz (h - i) (c - i) ex) := by
  simp [sliceA, ht, hs, hiA, loA, hi, hh, hx]
theorem slice_nil_lo (ht : P.underlying t = some (.slice e)) (hs : szT P e = some sz) {s : Nat} {ex : Bool} {k : IntKind} : sliceA P t (.sl none s 0 0 ex) (some (.int k 0)) none = some (.sl none sz 0 0 true) := by
  simp [sliceA, ht, hs, hiA, loA]
theorem wrap_i64' {n : Int} (h0 : -9223372036854775808 ≤ n) (h1 : n < 9223372036854775808) : IntKind.i64.wrap n = n := wrap_i64 h0 h1
theorem add_i64 {ti : TypeId} {x y z : Int} (hz : z = x + y) (h0 : -9223372036854775808 ≤ z) (h1 : z < 9223372036854775808) : binA P .add ti (.int .i64 x) (.int .i64 y) = some (.int .i64 z) := by
  subst hz; simp [binA, intA, wrap_i64 h0 h1]
theorem sub_i64 {ti : TypeId} {x y z : Int} (hz : z = x - y) (h0 : -9223372036854775808 ≤ z) (h1 : z < 9223372036854775808) : binA P .sub ti (.int .i64 x) (.int .i64 y) = some (.int .i64 z) := by
  subst hz; simp [binA, intA, wrap_i64 h0 h1]
theorem eql_int {ti : TypeId} {k : IntKind} {x y : Int} : binA P .eql ti (.int k x) (.int k y) = some (.bool (decide (x = y))) := by simp [binA, intA]; rfl
theorem neq_int {ti : TypeId} {k : IntKind} {x y : Int} : binA P .neq ti (.int k x) (.int k y) = some (.bool (decide (x ≠ y))) := by
  simp [binA, intA]; rw [Bool.eq_iff_iff]; simp
theorem lss_int {ti : TypeId} {k : IntKind} {x y : Int} : binA P .lss ti (.int k x) (.int k y) = some (.bool (decide (x < y))) := by simp [binA, intA]
theorem leq_int {ti : TypeId} {k : IntKind} {x y : Int} : binA P .leq ti (.int k x) (.int k y) = some (.bool (decide (x ≤ y))) := by simp [binA, intA]
theorem gtr_int {ti : TypeId} {k : IntKind} {x y : Int} : binA P .gtr ti (.int k x) (.int k y) = some (.bool (decide (y < x))) := by simp [binA, intA]
theorem geq_int {ti : TypeId} {k : IntKind} {x y : Int} : binA P .geq ti (.int k x) (.int k y) = some (.bool (decide (y ≤ x))) := by simp [binA, intA]

theorem copy_st {a : AA} {s l c n j : Nat} {ex : Bool} {x : AV} {m m' : Mem} {cs ds : List AV} (hx : s = sz ∨ ex = true) (hsrc : srcA sz x m = some (n, cs)) (hj : min n l = j) (h0 : 0 < j) (hd : cs.take (j * sz) = ds) (h1 : ds.all AV.one = true) (hst : stCells m a ds = some m') :
    copyA sz (.sl (some a) s l c ex) x m = some (.int .i64 j, m') := by
  subst hj hd
  unfold copyA
  simp only [hsrc]
  rw [if_neg (by omega)]
  simp [hx, h1, hst]
theorem st_put {m : Mem} {a : AA} {cs vs : List AV} (h : m.get a.b = some (.cells cs false)) (hl : a.o + vs.length ≤ cs.length) : stCells m a vs = some (m.put a.b (some (.cells (cs.take a.o ++ vs ++ cs.drop (a.o + vs.length)) false))) := by
  simp [stCells, h, hl]
end ops

noncomputable def insBody (P : Program) (st ti sz w : Nat) (ov rot : AV → AV → Mem → R) (a0 a1 a2 : AV) (m : Mem) : R :=
  Option.bind (sliceA P st a0 (some a1) none) fun _ =>
  Option.bind (lenT P st a2) fun x1 =>
  Option.bind (binA P .eql ti x1 (.int .i64 0)) fun x2 =>
  condA x2 (some (a0, m)) (
   Option.bind (lenT P st a0) fun y0 =>
   Option.bind (binA P .eql ti a1 y0) fun y1 =>
   condA y1 (Option.bind (appendA sz w a0 a2 m) fun r2 => some (r2.1, r2.2)) (
    Option.bind (binA P .add ti y0 x1) fun z0 =>
    Option.bind (capT P st a0) fun z1 =>
    Option.bind (binA P .gtr ti z0 z1) fun z2 =>
    condA z2 (
     Option.bind (sliceA P st a0 none (some a1)) fun x3 =>
     Option.bind (binA P .add ti y0 x1) fun x4 =>
     Option.bind (binA P .sub ti x4 a1) fun x5 =>
     Option.bind (appendZ P st x3 x5 m) fun r6 =>
     Option.bind (sliceA P st r6.1 (some a1) none) fun x7 =>
     Option.bind (copyA sz x7 a2 r6.2) fun r8 =>
     Option.bind (binA P .add ti a1 x1) fun x9 =>
     Option.bind (sliceA P st r6.1 (some x9) none) fun x10 =>
     Option.bind (sliceA P st a0 (some a1) none) fun x11 =>
     Option.bind (copyA sz x10 x11 r8.2) fun r12 =>
     some (r6.1, r12.2)) (
     Option.bind (binA P .add ti y0 x1) fun u0 =>
     Option.bind (sliceA P st a0 none (some u0)) fun u1 =>
     Option.bind (binA P .add ti a1 x1) fun u2 =>
     Option.bind (sliceA P st u1 (some u2) none) fun u3 =>
     Option.bind (ov a2 u3 m) fun r4 =>
     Option.bind (unA .not r4.1) fun u5 =>
     condA u5 (
      Option.bind (binA P .add ti a1 x1) fun u6 =>
      Option.bind (sliceA P st u1 (some u6) none) fun u7 =>
      Option.bind (sliceA P st u1 (some a1) none) fun u8 =>
      Option.bind (copyA sz u7 u8 r4.2) fun r9 =>
      Option.bind (sliceA P st u1 (some a1) none) fun u10 =>
      Option.bind (copyA sz u10 a2 r9.2) fun r11 =>
      some (u1, r11.2)) (
      Option.bind (sliceA P st u1 (some y0) none) fun v0 =>
      Option.bind (copyA sz v0 a2 r4.2) fun s1 =>
      Option.bind (sliceA P st u1 (some a1) none) fun v2 =>
      Option.bind (rot v2 x1 s1.2) fun s3 =>
      some (u1, s3.2)))))

theorem srcA_cells {sz : Nat} {a : AA} {s l c : Nat} {ex : Bool} {m : Mem} {cs : List AV} {ro : Bool} (hx : s = sz ∨ ex = true) (h : m.get a.b = some (.cells cs ro)) (hl : a.o + l * sz ≤ cs.length) :
    srcA sz (.sl (some a) s l c ex) m = some (l, (cs.drop a.o).take (l * sz)) := by
  have hld : ldCells m a (l * sz) = some ((cs.drop a.o).take (l * sz)) := by simp [ldCells, h, hl]
  unfold srcA
  split
  · simp_all
  · rename_i a' s' l' c' ex' e
    cases e
    simp [hx, hld]
  · simp_all
  · rename_i h1 h2 h3
    exact absurd rfl (h2 a s l c ex)
theorem srcA_size {sz k : Nat} {a : AA} {s l c : Nat} {ex : Bool} {m : Mem} {new : List AV} (h : srcA sz (.sl (some a) s l c ex) m = some (k, new)) : new.length = k * sz := by
  have hk := srcA_len h
  subst hk
  unfold srcA at h
  simp only at h
  split at h
  · obtain ⟨cs, h1, e⟩ := Option.map_eq_some_iff.1 h
    cases e
    obtain ⟨ds, ro, _, h2, rfl⟩ := ldCells_spec h1
    simp; omega
  · cases h

theorem ins_text {E : Env} {f st ti sz w e : Nat} {ov rot : AV → AV → Mem → R} {zs : List AV} (ht : E.P.underlying st = some (.slice e)) (hs : szT E.P e = some sz) (hw : bytesT E.P e = some w) (hz : zeroA E.P e = some zs)
    (hov : ∀ (v s : AV) (m : Mem), ov v s m = overlapsH [v, s] m) (heq : ∀ a0 a1 a2 m, run E (.fn f) [a0, a1, a2] m = insBody E.P st ti sz w ov rot a0 a1 a2 m) : InsText E f st sz w zs where
  fin := by
    intro s x n k new sa sz0 len cap ex xa sx cx exx m r hsE hxE hsrc hk hn1 hcase happ
    subst hsE hxE
    rw [heq]
    unfold insBody
    have e0 : ∃ y, sliceA E.P st (.sl sa sz0 len cap ex) (some (.int .i64 len)) none = some y := by
      rcases hcase with ⟨a, rfl, hx⟩ | ⟨rfl, rfl, rfl⟩
      · exact ⟨_, slice_lo ht hs (hx.imp Eq.symm id) (Nat.le_refl _)⟩
      · exact ⟨_, by simpa using slice_nil_lo (s := sz0) (ex := ex) (k := .i64) ht hs⟩
    obtain ⟨y, e0⟩ := e0
    simp only [e0, Option.bind_some, len_sl ht, eql_int, decide_eq_false (show ¬ (k : Int) = 0 by omega), condA, decide_true, happ]
  room := by
    intro a len cap i k xa sx cx exx cs old new m ha hfit hold hone hx hne hsrc hn1 hk hsz hw0 hzs hil hby hroom
    have hb : len + k ≤ 140737488355328 := Nat.le_trans (Nat.le_mul_of_pos_right _ hw0) hby
    have hnl := srcA_size hsrc
    have hmul : ∀ x y : Nat, x ≤ y → x * sz ≤ y * sz := fun x y h => Nat.mul_le_mul_right _ h
    have hlc := hmul len cap (by omega)
    have hlk := hmul (len + k) cap hroom
    have hil2 := hmul i len (by omega)
    have hadd : ∀ x y : Nat, (x + y) * sz = x * sz + y * sz := fun x y => Nat.add_mul _ _ _
    have hsub : (len - i) * sz = len * sz - i * sz := Nat.mul_sub_right_distrib _ _ _
    have hik := hadd i k
    have hlks := hadd len k
    have hol : old.length = len * sz := by rw [← hold, List.length_take, List.length_drop]; omega
    have hiksz : 0 < k * sz := Nat.mul_pos hk hsz
    rw [heq]
    unfold insBody
    have e1 := slice_lo (a := a) (s := sz) (c := cap) (ex := true) (k := .i64) ht hs (.inl rfl) (show i ≤ len by omega)
    have e2 := slice_hi (a := a) (s := sz) (l := len) (ex := true) (k := .i64) ht hs (.inl rfl) hroom
    have e3 := slice_lo (a := a) (s := sz) (c := cap) (ex := true) (k := .i64) ht hs (.inl rfl) (show i + k ≤ len + k by omega)
    have e4 := slice_lo (a := a) (s := sz) (c := cap) (ex := true) (k := .i64) ht hs (.inl rfl) (show i ≤ len + k by omega)
    have a1 : binA E.P .add ti (.int .i64 (len : Int)) (.int .i64 (k : Int)) = some (.int .i64 ((len + k : Nat) : Int)) := add_i64 (by simp) (by omega) (by omega)
    have a2 : binA E.P .add ti (.int .i64 (i : Int)) (.int .i64 (k : Int)) = some (.int .i64 ((i + k : Nat) : Int)) := add_i64 (by simp) (by omega) (by omega)
    obtain ⟨ds, hx⟩ := hx
    have hcne : cs ≠ [] := by rintro rfl; simp at hfit; omega
    have hovr : ov (.sl (some xa) sx k cx exx) (.sl (some ⟨a.b, a.o + (i + k) * sz⟩) sz (len + k - (i + k)) (cap - (i + k)) true) m = some (.bool false, m) := by
      rw [hov]
      obtain ⟨c0, cs0, rfl⟩ := List.exists_cons_of_ne_nil hcne
      simp only [overlapsH, if_neg hne, hx, ha]
    have hsr1 := srcA_cells (a := ⟨a.b, a.o + i * sz⟩) (s := sz) (l := len + k - i) (c := cap - i) (ex := true) (.inl rfl) ha (by
      have := hadd i (len + k - i)
      rw [show i + (len + k - i) = len + k by omega] at this
      simp only; omega)
    have hmove : ((cs.drop (a.o + i * sz)).take ((len + k - i) * sz)).take ((len - i) * sz) = old.drop (i * sz) := by
      rw [List.take_take, Nat.min_eq_left (hmul _ _ (by omega)), ← hold, List.drop_take, List.drop_drop, hsub]
    have hst1 := st_put (a := ⟨a.b, a.o + (i + k) * sz⟩) (vs := old.drop (i * sz)) ha (by simp only [List.length_drop, hol]; omega)
    have hc1 := copy_st (a := ⟨a.b, a.o + (i + k) * sz⟩) (s := sz) (l := len + k - (i + k)) (c := cap - (i + k)) (ex := true) (.inl rfl) hsr1 (j := len - i) (by omega) (by omega) hmove (by
      rw [List.all_eq_true] at hone ⊢
      exact fun v hv => hone v (List.mem_of_mem_drop hv)) hst1
    generalize hm1 : m.put a.b (some (.cells (cs.take (a.o + (i + k) * sz) ++ old.drop (i * sz) ++ cs.drop (a.o + (i + k) * sz + (old.drop (i * sz)).length)) false)) = m1 at hc1
    generalize hcs1 : cs.take (a.o + (i + k) * sz) ++ old.drop (i * sz) ++ cs.drop (a.o + (i + k) * sz + (old.drop (i * sz)).length) = cs1 at hm1
    have hal := Mem.get_lt ha
    have ha1 : m1.get a.b = some (.cells cs1 false) := by rw [← hm1, Mem.get_put, if_pos ⟨rfl, hal⟩]
    have hl1 : cs1.length = cs.length := by rw [← hcs1]; simp only [List.length_append, List.length_take, List.length_drop, hol]; omega
    have hsr2 : srcA sz (.sl (some xa) sx k cx exx) m1 = some (k, new) := by rw [← hm1, srcA_put hne]; exact hsrc
    have hst2 := st_put (a := ⟨a.b, a.o + i * sz⟩) (vs := new) ha1 (by simp only [hnl, hl1]; omega)
    have hc2 := copy_st (a := ⟨a.b, a.o + i * sz⟩) (s := sz) (l := len + k - i) (c := cap - i) (ex := true) (.inl rfl) hsr2 (j := k) (by omega) hk (List.take_of_length_le (by omega)) hn1 hst2
    simp only [e1, Option.bind_some, len_sl ht, cap_sl ht, eql_int, gtr_int, decide_eq_false (show ¬ (k : Int) = 0 by omega), decide_eq_false (show ¬ (i : Int) = (len : Int) by omega), condA, a1, a2, decide_eq_false (show ¬ (cap : Int) < ((len + k : Nat) : Int) by omega), e2, e3, e4, hovr, unA, Bool.not_false, hc1, hc2]
    refine ⟨_, rfl, by rw [← hm1]; rfl, fun b hb => ?_, ?_⟩
    · rw [Mem.get_put, if_neg (fun h => hb h.1), ← hm1, Mem.get_put, if_neg (fun h => hb h.1)]
    · rw [Mem.get_put, if_pos ⟨rfl, by rw [← hm1]; exact hal⟩]
      congr 2
      have p1 : cs1.take (a.o + i * sz) = cs.take (a.o + i * sz) := by
        rw [← hcs1, List.append_assoc, List.take_append_of_le_length (by simp; omega), List.take_take, Nat.min_eq_left (by omega)]
      have p2 : cs1.drop (a.o + i * sz + new.length) = old.drop (i * sz) ++ cs.drop (a.o + (len + k) * sz) := by
        rw [← hcs1, hnl, List.append_assoc, List.drop_append]
        have hlen : (cs.take (a.o + (i + k) * sz)).length = a.o + (i + k) * sz := by simp; omega
        rw [List.drop_eq_nil_of_le (by rw [hlen]; omega), List.nil_append, hlen, show a.o + i * sz + k * sz - (a.o + (i + k) * sz) = 0 by omega, List.drop_zero]
        congr 2
        simp only [List.length_drop, hol]; omega
      rw [p1, p2]; simp only [List.append_assoc]
  grow := by
    intro a len cap i k xa sx cx exx cs old new m ha hfit hold hone hx hne hsrc hn1 hk hsz hw0 hzs hil hby hlcap hroom
    have hb : len + k ≤ 140737488355328 := Nat.le_trans (Nat.le_mul_of_pos_right _ hw0) hby
    have hnl := srcA_size hsrc
    have hmul : ∀ x y : Nat, x ≤ y → x * sz ≤ y * sz := fun x y h => Nat.mul_le_mul_right _ h
    have hlc := hmul len cap (by omega)
    have hil2 := hmul i len (by omega)
    have hadd : ∀ x y : Nat, (x + y) * sz = x * sz + y * sz := fun x y => Nat.add_mul _ _ _
    have hik := hadd i k
    have hlks := hadd len k
    have hsub : (len - i) * sz = len * sz - i * sz := Nat.mul_sub_right_distrib _ _ _
    have hsub2 : (len + k - i) * sz = (len + k) * sz - i * sz := Nat.mul_sub_right_distrib _ _ _
    have hol : old.length = len * sz := by rw [← hold, List.length_take, List.length_drop]; omega
    have hiksz : 0 < k * sz := Nat.mul_pos hk hsz
    rw [heq]
    unfold insBody
    have e1 := slice_lo (a := a) (s := sz) (c := cap) (ex := true) (k := .i64) ht hs (.inl rfl) (show i ≤ len by omega)
    have e2 := slice_hi (a := a) (s := sz) (l := len) (ex := true) (k := .i64) ht hs (.inl rfl) (show i ≤ cap by omega)
    have a1 : binA E.P .add ti (.int .i64 (len : Int)) (.int .i64 (k : Int)) = some (.int .i64 ((len + k : Nat) : Int)) := add_i64 (by simp) (by omega) (by omega)
    have a2 : binA E.P .add ti (.int .i64 (i : Int)) (.int .i64 (k : Int)) = some (.int .i64 ((i + k : Nat) : Int)) := add_i64 (by simp) (by omega) (by omega)
    have a3 : binA E.P .sub ti (.int .i64 ((len + k : Nat) : Int)) (.int .i64 (i : Int)) = some (.int .i64 ((len + k - i : Nat) : Int)) := sub_i64 (by omega) (by omega) (by omega)
    have hal := Mem.get_lt ha
    have hold2 : (cs.drop a.o).take (i * sz) = old.take (i * sz) := by rw [← hold, List.take_take, Nat.min_eq_left hil2]
    have hz1 : appendZ E.P st (.sl (some a) sz i cap true) (.int .i64 ((len + k - i : Nat) : Int)) m = some (.sl (some ⟨m.next, 0⟩) sz (len + k) (len + k) false, m.alloc (old.take (i * sz) ++ (List.replicate (len + k - i) zs).flatten)) := by
      simp only [appendZ, ht, hz, hs, hw, Option.bind_some, Int.toNat_natCast]
      rw [if_pos ⟨by omega, hzs, hsz, hw0, by omega, by omega, by omega, by rw [show i + (len + k - i) = len + k by omega]; exact hby⟩]
      simp only [ldCells, ha]
      rw [if_pos (by omega), hold2]
      simp only [Option.map_some]
      rw [show i + (len + k - i) = len + k by omega]
    generalize hrow : old.take (i * sz) ++ (List.replicate (len + k - i) zs).flatten = row at hz1
    have hto : (old.take (i * sz)).length = i * sz := by rw [List.length_take]; omega
    have hrl : row.length = (len + k) * sz := by rw [← hrow]; simp only [List.length_append, List.length_flatten, List.map_replicate, List.sum_replicate_nat, hzs, hto]; omega
    have hr0 : (m.alloc row).get m.next = some (.cells row false) := by rw [Mem.get_alloc, if_pos rfl]
    have e5 := slice_lo (a := ⟨m.next, 0⟩) (s := sz) (c := len + k) (ex := false) (k := .i64) ht hs (.inl rfl) (show i ≤ len + k by omega)
    have e6 := slice_lo (a := ⟨m.next, 0⟩) (s := sz) (c := len + k) (ex := false) (k := .i64) ht hs (.inl rfl) (show i + k ≤ len + k by omega)
    simp only [Nat.zero_add] at e5 e6
    obtain ⟨ds, hx⟩ := hx
    have hxl := Mem.get_lt hx
    have hsr1 : srcA sz (.sl (some xa) sx k cx exx) (m.alloc row) = some (k, new) := by
      rw [← hsrc]; unfold srcA ldCells
      simp only [Mem.get_alloc, if_neg (show ¬ xa.b = m.next by omega)]
    have hst1 := st_put (a := ⟨m.next, i * sz⟩) (vs := new) hr0 (by simp only [hnl, hrl]; omega)
    have hc1 := copy_st (a := ⟨m.next, i * sz⟩) (s := sz) (l := len + k - i) (c := len + k - i) (ex := false) (.inl rfl) hsr1 (j := k) (by omega) hk (List.take_of_length_le (by omega)) hn1 hst1
    generalize hcs1 : row.take (i * sz) ++ new ++ row.drop (i * sz + new.length) = row1 at hc1
    generalize hm1 : (m.alloc row).put m.next (some (.cells row1 false)) = m1 at hc1
    have hm1n : m1.next = m.next + 1 := by rw [← hm1]; rfl
    have hr1 : m1.get m.next = some (.cells row1 false) := by rw [← hm1, Mem.get_put, if_pos ⟨rfl, by simp⟩]
    have hoth : ∀ b, b ≠ m.next → m1.get b = m.get b := fun b hb => by rw [← hm1, Mem.get_put, if_neg (fun h => hb h.1), Mem.get_alloc, if_neg hb]
    have ha1 : m1.get a.b = some (.cells cs false) := by rw [hoth _ (by omega)]; exact ha
    have hl1 : row1.length = (len + k) * sz := by rw [← hcs1]; simp only [List.length_append, List.length_take, List.length_drop, hrl, hnl]; omega
    have hsr2 := srcA_cells (a := ⟨a.b, a.o + i * sz⟩) (s := sz) (l := len - i) (c := cap - i) (ex := true) (.inl rfl) ha1 (by simp only [hsub]; omega)
    have hmove : ((cs.drop (a.o + i * sz)).take ((len - i) * sz)).take ((len - i) * sz) = old.drop (i * sz) := by
      rw [List.take_take, Nat.min_self, ← hold, List.drop_take, List.drop_drop, hsub]
    have hst2 := st_put (a := ⟨m.next, (i + k) * sz⟩) (vs := old.drop (i * sz)) hr1 (by simp only [List.length_drop, hol, hl1]; omega)
    have hc2 := copy_st (a := ⟨m.next, (i + k) * sz⟩) (s := sz) (l := len + k - (i + k)) (c := len + k - (i + k)) (ex := false) (.inl rfl) hsr2 (j := len - i) (by omega) (by omega) hmove (by
      rw [List.all_eq_true] at hone ⊢
      exact fun v hv => hone v (List.mem_of_mem_drop hv)) hst2
    simp only [e1, Option.bind_some, len_sl ht, cap_sl ht, eql_int, gtr_int, decide_eq_false (show ¬ (k : Int) = 0 by omega), decide_eq_false (show ¬ (i : Int) = (len : Int) by omega), condA, a1, a2, a3, decide_eq_true (show (cap : Int) < ((len + k : Nat) : Int) by omega), e2, hz1, e5, e6, hc1, hc2]
    refine ⟨_, rfl, by simp [hm1n], fun b hb => ?_, ?_⟩
    · rw [Mem.get_put, if_neg (fun h => hb h.1)]; exact hoth b hb
    · rw [Mem.get_put, if_pos ⟨rfl, by omega⟩]
      congr 2
      have hri : row.take (i * sz) = old.take (i * sz) := by rw [← hrow, List.take_append_of_le_length (by omega), List.take_take, Nat.min_self]
      have p1 : row1.take ((i + k) * sz) = old.take (i * sz) ++ new := by
        rw [← hcs1, hri, List.take_append_of_le_length (by simp only [List.length_append, hto, hnl]; omega), List.take_of_length_le (by simp only [List.length_append, hto, hnl]; omega)]
      have p3 : row1.drop ((i + k) * sz + (old.drop (i * sz)).length) = [] := List.drop_eq_nil_of_le (by simp only [List.length_drop, hol, hl1]; omega)
      rw [p1, p3, List.append_nil]
end Go.Abs
end
section
namespace Go.Proofs.YtlginbmjiecglaaGreat
open Go Go.Abs
set_option maxRecDepth 4000
theorem ins47 : InsText E0 47 109 1 16 ((zeroA Tryz.prog 9).getD []) :=
  ins_text (E := E0) (ti := 3) (e := 9) (ov := fun v s m => run E0 (.fn 82) [v, s] m) (rot := fun v k m => run E0 (.fn 83) [v, k] m) (by kernel_rfl) (by kernel_rfl) (by kernel_rfl) (by kernel_rfl)
    (fun v s m => run_hook (E := E0) (h := overlapsH) rfl [v, s] m) (fun a0 a1 a2 m => by
      simp only [f47_eq, g47_0_eq, g47_1_eq, g47_2_eq, g47_3_eq]
      rfl)
theorem ins48 : InsText E0 48 45 4 40 ((zeroA Tryz.prog 64).getD []) :=
  ins_text (E := E0) (ti := 3) (e := 64) (ov := fun v s m => run E0 (.fn 84) [v, s] m) (rot := fun v k m => run E0 (.fn 85) [v, k] m) (by kernel_rfl) (by kernel_rfl) (by kernel_rfl) (by kernel_rfl)
    (fun v s m => run_hook (E := E0) (h := overlapsH) rfl [v, s] m) (fun a0 a1 a2 m => by
      simp only [f48_eq, g48_0_eq, g48_1_eq, g48_2_eq, g48_3_eq]
      rfl)
theorem ins50 : InsText E0 50 114 1 8 ((zeroA Tryz.prog 30).getD []) :=
  ins_text (E := E0) (ti := 3) (e := 30) (ov := fun v s m => run E0 (.fn 88) [v, s] m) (rot := fun v k m => run E0 (.fn 89) [v, k] m) (by kernel_rfl) (by kernel_rfl) (by kernel_rfl) (by kernel_rfl)
    (fun v s m => run_hook (E := E0) (h := overlapsH) rfl [v, s] m) (fun a0 a1 a2 m => by
      simp only [f50_eq, g50_0_eq, g50_1_eq, g50_2_eq, g50_3_eq]
      rfl)
theorem ins51 : InsText E0 51 47 4 40 ((zeroA Tryz.prog 70).getD []) :=
  ins_text (E := E0) (ti := 3) (e := 70) (ov := fun v s m => run E0 (.fn 90) [v, s] m) (rot := fun v k m => run E0 (.fn 91) [v, k] m) (by kernel_rfl) (by kernel_rfl) (by kernel_rfl) (by kernel_rfl)
    (fun v s m => run_hook (E := E0) (h := overlapsH) rfl [v, s] m) (fun a0 a1 a2 m => by
      simp only [f51_eq, g51_0_eq, g51_1_eq, g51_2_eq, g51_3_eq]
      rfl)
theorem ins57 : InsText E0 57 46 9 88 ((zeroA Tryz.prog 54).getD []) :=
  ins_text (E := E0) (ti := 3) (e := 54) (ov := fun v s m => run E0 (.fn 95) [v, s] m) (rot := fun v k m => run E0 (.fn 96) [v, k] m) (by kernel_rfl) (by kernel_rfl) (by kernel_rfl) (by kernel_rfl)
    (fun v s m => run_hook (E := E0) (h := overlapsH) rfl [v, s] m) (fun a0 a1 a2 m => by
      simp only [f57_eq, g57_0_eq, g57_1_eq, g57_2_eq, g57_3_eq]
      rfl)
end Go.Proofs.YtlginbmjiecglaaGreat
end
section
namespace Go.Proofs.YtlginbmjiecglaaGreat
open Go Go.Abs
set_option maxRecDepth 4000
noncomputable def H (f : FuncId) : Option (List AV → Mem → R) :=
  match f with
  | 79 => some sub64H
  | 82 => some overlapsH
  | 84 => some overlapsH
  | 88 => some overlapsH
  | 90 => some overlapsH
  | 92 => some add64H
  | 95 => some overlapsH
  | 47 => some (insH Tryz.prog 109)
  | 48 => some (insH Tryz.prog 45)
  | 50 => some (insH Tryz.prog 114)
  | 51 => some (insH Tryz.prog 47)
  | 57 => some (insH Tryz.prog 46)
  | _ => none
noncomputable def E : Env := envOf Tryz.prog hints H
theorem E_ok : EnvOk E := envOf_ok (by kernel_rfl) 145 (fun f h => by
    unfold hints; rw [List.getElem?_eq_none (by show 145 ≤ f; exact h)]; rfl) (fun f h => List.all_eq_true.1 looks f (List.mem_range.2 h)) (fun f h e => by
    unfold H at e
    split at e
    · have e1 := Option.some.inj e; subst e1; exact sub64_ok (P := Tryz.prog) (fn := Tryz.f79) Tryz.func79 (by kernel_rfl) (by kernel_rfl) (by kernel_rfl) (by kernel_rfl)
    · have e1 := Option.some.inj e; subst e1; exact overlaps_ok (P := Tryz.prog) (fn := Tryz.f82) (st := 109) (tr := 4) (e := 9) (sz := 1) Tryz.func82 (by kernel_rfl) (by kernel_rfl) (by kernel_rfl) (by kernel_rfl) (by kernel_rfl) (by kernel_rfl)
    · have e1 := Option.some.inj e; subst e1; exact overlaps_ok (P := Tryz.prog) (fn := Tryz.f84) (st := 45) (tr := 4) (e := 64) (sz := 4) Tryz.func84 (by kernel_rfl) (by kernel_rfl) (by kernel_rfl) (by kernel_rfl) (by kernel_rfl) (by kernel_rfl)
    · have e1 := Option.some.inj e; subst e1; exact overlaps_ok (P := Tryz.prog) (fn := Tryz.f88) (st := 114) (tr := 4) (e := 30) (sz := 1) Tryz.func88 (by kernel_rfl) (by kernel_rfl) (by kernel_rfl) (by kernel_rfl) (by kernel_rfl) (by kernel_rfl)
    · have e1 := Option.some.inj e; subst e1; exact overlaps_ok (P := Tryz.prog) (fn := Tryz.f90) (st := 47) (tr := 4) (e := 70) (sz := 4) Tryz.func90 (by kernel_rfl) (by kernel_rfl) (by kernel_rfl) (by kernel_rfl) (by kernel_rfl) (by kernel_rfl)
    · have e1 := Option.some.inj e; subst e1; exact add64_ok (P := Tryz.prog) (fn := Tryz.f92) Tryz.func92 (by kernel_rfl) (by kernel_rfl) (by kernel_rfl) (by kernel_rfl)
    · have e1 := Option.some.inj e; subst e1; exact overlaps_ok (P := Tryz.prog) (fn := Tryz.f95) (st := 46) (tr := 4) (e := 54) (sz := 9) Tryz.func95 (by kernel_rfl) (by kernel_rfl) (by kernel_rfl) (by kernel_rfl) (by kernel_rfl) (by kernel_rfl)
    · have e1 := Option.some.inj e; subst e1; exact insert_ok (E := E0) E0_ok (st := 109) (e := 9) (by kernel_rfl) (by kernel_rfl) (by kernel_rfl) (by kernel_rfl) ⟨Tryz.f47, Tryz.func47, by kernel_rfl, by decide +kernel⟩ ins47
    · have e1 := Option.some.inj e; subst e1; exact insert_ok (E := E0) E0_ok (st := 45) (e := 64) (by kernel_rfl) (by kernel_rfl) (by kernel_rfl) (by kernel_rfl) ⟨Tryz.f48, Tryz.func48, by kernel_rfl, by decide +kernel⟩ ins48
    · have e1 := Option.some.inj e; subst e1; exact insert_ok (E := E0) E0_ok (st := 114) (e := 30) (by kernel_rfl) (by kernel_rfl) (by kernel_rfl) (by kernel_rfl) ⟨Tryz.f50, Tryz.func50, by kernel_rfl, by decide +kernel⟩ ins50
    · have e1 := Option.some.inj e; subst e1; exact insert_ok (E := E0) E0_ok (st := 47) (e := 70) (by kernel_rfl) (by kernel_rfl) (by kernel_rfl) (by kernel_rfl) ⟨Tryz.f51, Tryz.func51, by kernel_rfl, by decide +kernel⟩ ins51
    · have e1 := Option.some.inj e; subst e1; exact insert_ok (E := E0) E0_ok (st := 46) (e := 54) (by kernel_rfl) (by kernel_rfl) (by kernel_rfl) (by kernel_rfl) ⟨Tryz.f57, Tryz.func57, by kernel_rfl, by decide +kernel⟩ ins57
    · cases e)
end Go.Proofs.YtlginbmjiecglaaGreat
end
section
namespace Go.Abs
open Go

inductive CM where
  | ret (v : AV)
  | fail
  | resC (P : Program) (rs : List ResultVar) (vs : List AV)
  | pu (e : Option AV) (K : AV → CM)
  | rm (e : Mem → Option AV) (K : AV → CM)
  | al (e : Option (Blk × (Nat → AV))) (K : AV → CM)
  | ef (e : Mem → R) (K : AV → CM)
  | st (e : Mem → Option Mem) (K : CM)
  | call (f : Nat) (az : List AV) (K : AV → CM)
  | callv (fv : AV) (az : List AV) (K : AV → CM)
  | ifv (v : AV) (x y : CM)
  | cond (v : AV) (x y : CM)
  | memo (K : Mem → CM)
  | chk (e : Option AV) (v : AV) (K : CM)
  | go (key : Nat) (ts : List AV)
  | rng (md : Md) (fv : AV) (l : LoopA) (key : Nat) (ts : List AV)

structure Do where
  call : CallF
  gor : Nat → List AV → Mem → R
  afr : Nat → Option Jmp → List AV → Mem → R

noncomputable def bindA {α : Type} (e : Option α) (K : α → R) : R := Option.rec (motive := fun _ => R) none K e

noncomputable def interp (d : Do) (c : CM) : Mem → R :=
  CM.rec (motive := fun _ => Mem → R)
    (fun v m => some (v, m))
    (fun _ => none)
    (fun P rs vs m => Option.rec (motive := fun _ => R) none (fun vs => some (tupA vs, m)) (resA P rs vs m))
    (fun e _ ih m => Option.rec (motive := fun _ => R) none (fun v => ih v m) e)
    (fun e _ ih m => Option.rec (motive := fun _ => R) none (fun v => ih v m) (e m))
    (fun e _ ih m => Option.rec (motive := fun _ => R) none (fun c => ih (c.2 m.next) (m.lay c.1)) e)
    (fun e _ ih m => Option.rec (motive := fun _ => R) none (fun r => ih r.1 r.2) (e m))
    (fun e _ ih m => Option.rec (motive := fun _ => R) none (fun m => ih m) (e m))
    (fun f az _ ih m => Option.rec (motive := fun _ => R) none (fun r => ih r.1 r.2) (d.call (.fn f) az m))
    (fun fv az _ ih m => Option.rec (motive := fun _ => R) none (fun r => ih r.1 r.2) (callA d.call fv az m))
    (fun v _ _ x y m => ifV v (x m) (y m))
    (fun v _ _ x y m => condA v (x m) (y m))
    (fun _ ih m => ih m m)
    (fun e v _ ih m => if e = some v then ih m else none)
    (fun k ts m => d.gor k ts m)
    (fun md fv l k ts m => rangeK d.call md fv l m fun j m => d.afr k j ts m)
    c

section
variable {d : Do} {m : Mem}
theorem interp_ret (v : AV) : interp d (.ret v) m = some (v, m) := rfl
theorem interp_fail : interp d .fail m = none := rfl
theorem interp_resC (P : Program) (rs : List ResultVar) (vs : List AV) : interp d (.resC P rs vs) m = (resA P rs vs m).bind fun vs => some (tupA vs, m) := by
  cases h : resA P rs vs m <;> simp [interp, h]
theorem interp_pu (e : Option AV) (K : AV → CM) : interp d (.pu e K) m = e.bind fun v => interp d (K v) m := by cases e <;> rfl
theorem interp_rm (e : Mem → Option AV) (K : AV → CM) : interp d (.rm e K) m = (e m).bind fun v => interp d (K v) m := by
  show Option.rec (motive := fun _ => R) none (fun v => interp d (K v) m) (e m) = _
  cases e m <;> rfl
theorem interp_al (e : Option (Blk × (Nat → AV))) (K : AV → CM) : interp d (.al e K) m = e.bind fun c => interp d (K (c.2 m.next)) (m.lay c.1) := by cases e <;> rfl
theorem interp_ef (e : Mem → R) (K : AV → CM) : interp d (.ef e K) m = (e m).bind fun r => interp d (K r.1) r.2 := by
  show Option.rec (motive := fun _ => R) none (fun r => interp d (K r.1) r.2) (e m) = _
  cases e m <;> rfl
theorem interp_st (e : Mem → Option Mem) (K : CM) : interp d (.st e K) m = (e m).bind fun m => interp d K m := by
  show Option.rec (motive := fun _ => R) none (fun m => interp d K m) (e m) = _
  cases e m <;> rfl
theorem interp_call (f : Nat) (az : List AV) (K : AV → CM) : interp d (.call f az K) m = (d.call (.fn f) az m).bind fun r => interp d (K r.1) r.2 := by
  show Option.rec (motive := fun _ => R) none (fun r => interp d (K r.1) r.2) (d.call (.fn f) az m) = _
  cases d.call (.fn f) az m <;> rfl
theorem interp_callv (fv : AV) (az : List AV) (K : AV → CM) : interp d (.callv fv az K) m = (callA d.call fv az m).bind fun r => interp d (K r.1) r.2 := by
  show Option.rec (motive := fun _ => R) none (fun r => interp d (K r.1) r.2) (callA d.call fv az m) = _
  cases callA d.call fv az m <;> rfl
theorem interp_ifv (v : AV) (x y : CM) : interp d (.ifv v x y) m = ifV v (interp d x m) (interp d y m) := rfl
theorem interp_cond (v : AV) (x y : CM) : interp d (.cond v x y) m = condA v (interp d x m) (interp d y m) := rfl
theorem interp_memo (K : Mem → CM) : interp d (.memo K) m = interp d (K m) m := rfl
theorem interp_chk (e : Option AV) (v : AV) (K : CM) : interp d (.chk e v K) m = if e = some v then interp d K m else none := rfl
theorem interp_go (k : Nat) (ts : List AV) : interp d (.go k ts) m = d.gor k ts m := rfl
theorem interp_rng (md : Md) (fv : AV) (l : LoopA) (k : Nat) (ts : List AV) : interp d (.rng md fv l k ts) m = rangeK d.call md fv l m fun j m => d.afr k j ts m := rfl
end

theorem Le.bindA {α : Type} {f g : Option α} {F G : α → R} (h : Le f g) (hF : ∀ x, Le (F x) (G x)) : Le (bindA f F) (bindA g G) := by
  have e : ∀ (o : Option α) (K : α → R), Abs.bindA o K = o.bind K := fun o K => by cases o <;> rfl
  rw [e, e]; exact h.bind hF

abbrev p1 {α : Type} (F : α → Option AV) (x : α) : Option AV := (some x).bind F
abbrev p2 (F : AV → AV → Option AV) (x y : AV) : Option AV := (some x).bind fun a => (some y).bind fun b => F a b
abbrev p3 (F : AV → AV → AV → Option AV) (x y z : AV) : Option AV := (some x).bind fun a => (some y).bind fun b => (some z).bind fun c => F a b c
abbrev q1 (F : AV → Mem → Option AV) (x : AV) (m : Mem) : Option AV := (some x).bind fun a => F a m
abbrev q2 (F : AV → AV → Mem → Option AV) (x y : AV) (m : Mem) : Option AV := (some x).bind fun a => (some y).bind fun b => F a b m
noncomputable abbrev apE (k w : Nat) (s x : AV) (m : Mem) : R := (some (k, w)).bind fun nw => appendA nw.1 nw.2 s x m

structure Do.Le (d e : Do) : Prop where
  call : ∀ t az m, Abs.Le (d.call t az m) (e.call t az m)
  gor : ∀ k ts m, Abs.Le (d.gor k ts m) (e.gor k ts m)
  afr : ∀ k j ts m, Abs.Le (d.afr k j ts m) (e.afr k j ts m)

theorem Le.rangeK {c c' : CallF} (h : ∀ f a m, Le (c f a m) (c' f a m)) (md : Md) (fv : AV) (l : LoopA) (m : Mem) {go go' : Option Jmp → Mem → R} (hg : ∀ j m, Le (go j m) (go' j m)) :
    Le (Abs.rangeK c md fv l m go) (Abs.rangeK c' md fv l m go') := by
  unfold Abs.rangeK
  split
  · split
    · refine .bind (h _ _ _) fun r => ?_
      unfold rangeEnd
      split
      · split
        · exact .none _
        · exact hg _ _
      · exact .none _
    · exact .none _
  · exact .none _

theorem interp_le {d e : Do} (h : d.Le e) (c : CM) : ∀ m, Le (interp d c m) (interp e c m) := by
  induction c with
  | ret _ | fail | resC _ _ _ => exact fun m => .refl _
  | pu _ _ ih => exact fun m => Le.bindA (.refl _) fun v => ih v m
  | rm _ _ ih => exact fun m => Le.bindA (.refl _) fun v => ih v m
  | al _ _ ih => exact fun m => Le.bindA (.refl _) fun v => ih _ _
  | ef _ _ ih => exact fun m => Le.bindA (.refl _) fun v => ih _ _
  | st _ _ ih => exact fun m => Le.bindA (.refl _) fun v => ih _
  | call _ _ _ ih => exact fun m => Le.bindA (h.call _ _ _) fun v => ih _ _
  | callv fv az _ ih =>
    intro m
    refine Le.bindA ?_ fun v => ih _ _
    unfold callA
    split
    · exact h.call _ _ _
    · exact h.call _ _ _
    · exact .none _
  | ifv v _ _ x y =>
    intro m
    show Le (ifV v _ _) (ifV v _ _)
    unfold ifV
    split
    · exact x m
    · exact y m
    · exact .none _
  | cond v _ _ x y =>
    intro m
    show Le (condA v _ _) (condA v _ _)
    unfold condA
    split
    · exact x m
    · exact y m
    · exact .none _
  | memo _ ih => exact fun m => ih m m
  | chk e v _ ih =>
    intro m
    show Le (if e = some v then _ else _) (if e = some v then _ else _)
    split
    · exact ih m
    · exact .none _
  | go _ _ => exact fun m => h.gor _ _ _
  | rng md fv l k ts => exact fun m => Le.rangeK h.call _ _ _ _ fun j m => h.afr _ _ _ _


def spread : List Bool → List AV → List AV
  | true :: bs, v :: vs => v :: spread bs vs
  | true :: bs, [] => .undef :: spread bs []
  | false :: bs, vs => .undef :: spread bs vs
  | [], _ => []

def bM (n x : Nat) : List Bool := (List.range n).map (Nat.testBit x)

noncomputable def goR (E : Env) (M : Nat → List Bool) (k : Nat) (ts : List AV) (m : Mem) : R := goAt E (k / 4096) (k % 4096) (spread (M k) ts) m
noncomputable def afR (E : Env) (M : Nat → List Bool) (k : Nat) (j : Option Jmp) (ts : List AV) (m : Mem) : R := afterAt E (k / 4096) (k % 4096) j (spread (M k) ts) m
noncomputable def real (E : Env) (M N : Nat → List Bool) : Do := ⟨run E, goR E M, afR E N⟩

theorem goR_eq {E : Env} {M : Nat → List Bool} {k : Nat} (n : Nat) {ts : List AV} {m : Mem} {r : R}
    (h : goC E (run E) (.fn (rsOf E (k / 4096))) (go E (.fn (rsOf E (k / 4096)))) n (kAt E (k / 4096) (k % 4096)) (spread (M k) ts) m = r) : goR E M k ts m = r := goAt_eq n h
theorem afR_eq {E : Env} {M : Nat → List Bool} {k : Nat} {j : Option Jmp} (n : Nat) {ts : List AV} {m : Mem} {r : R}
    (h : goC E (run E) (.fn (rsOf E (k / 4096))) (go E (.fn (rsOf E (k / 4096)))) n (pend j (kLoop E (k / 4096) (k % 4096))) (spread (M k) ts) m = r) : afR E M k j ts m = r := afterAt_eq n h


noncomputable def apS (F : AV → List AV → CM) (l : List AV) : CM := List.rec (motive := fun _ => CM) .fail (fun a l _ => F a l) l
noncomputable def ap0 (c : CM) (l : List AV) : CM := List.rec (motive := fun _ => CM) c (fun _ _ _ => .fail) l

theorem apS_cons (F : AV → List AV → CM) (a : AV) (l : List AV) : apS F (a :: l) = F a l := rfl
theorem ap0_nil (c : CM) : ap0 c [] = c := rfl

def LeD (d : Do) (D : List AV → CM) (g : List AV → Mem → R) : Prop := ∀ l m, Le (interp d (D l) m) (g l m)
theorem apS_le {d : Do} {F : AV → List AV → CM} {g : List AV → Mem → R} (h : ∀ a, LeD d (F a) fun l => g (a :: l)) : LeD d (apS F) g := fun l m => by
  cases l with
  | nil => exact .none _
  | cons a l => exact h a l m
theorem ap0_le {d : Do} {c : CM} {g : List AV → Mem → R} (h : ∀ m, g [] m = interp d c m) : LeD d (ap0 c) g := fun l m => by
  cases l with
  | nil => show Le (interp d c m) (g [] m); rw [h]; exact .refl _
  | cons a l => exact .none _
def EqD (d : Do) (D : List AV → CM) (g : List AV → Mem → R) : Prop := ∀ l m, g l m = interp d (D l) m ∨ D l = .fail
theorem sE {d : Do} {F : AV → List AV → CM} {g : List AV → Mem → R} (h : ∀ a, EqD d (F a) fun l => g (a :: l)) : EqD d (apS F) g := fun l m => by
  cases l with
  | nil => exact .inr rfl
  | cons a l => exact h a l m
theorem zE {d : Do} {c : CM} {g : List AV → Mem → R} (h : ∀ m, g [] m = interp d c m) : EqD d (ap0 c) g := fun l m => by
  cases l with
  | nil => exact .inl (h m)
  | cons a l => exact .inr rfl
theorem EqD.le {d : Do} {D : List AV → CM} {g : List AV → Mem → R} (h : EqD d D g) : LeD d D g := fun l m => by
  cases h l m with
  | inl e => rw [e]; exact .refl _
  | inr e => rw [e]; exact .none _
theorem fail_le {d : Do} {g : List AV → Mem → R} : LeD d (fun _ => .fail) g := fun _ _ => .none _

theorem all_nil {α : Type} {p : α → Prop} : ∀ x ∈ ([] : List α), p x := fun _ h => by simp at h
theorem all_cons {α : Type} {p : α → Prop} {a : α} {l : List α} (h : p a) (h' : ∀ x ∈ l, p x) : ∀ x ∈ a :: l, p x := fun x hx => by
  cases hx with
  | head => exact h
  | tail _ hx => exact h' x hx

def pB (b : Nat) : AV := .ptr (some ⟨b, 0⟩)
def sB (n len : Nat) (b : Nat) : AV := .sl (some ⟨b, 0⟩) n len len true
def mB (b : Nat) : AV := .map (some b)


inductive BT (α : Type) where
  | leaf
  | node (k : Nat) (v : α) (l r : BT α)

noncomputable def BT.find {α : Type} (t : BT α) (q : Nat) : Option α :=
  BT.rec (motive := fun _ => Option α) none (fun k v _ _ l r => Bool.rec (motive := fun _ => Option α) (Bool.rec (motive := fun _ => Option α) r l (Nat.ble q k)) (some v) (Nat.beq q k)) t

def BT.All {α : Type} (Q : Nat → α → Prop) : BT α → Prop
  | .leaf => True
  | .node k v l r => Q k v ∧ l.All Q ∧ r.All Q

theorem BT.find_all {α : Type} {Q : Nat → α → Prop} {q : Nat} {v : α} : ∀ {t : BT α}, t.All Q → t.find q = some v → Q q v
  | .leaf, _, h => by simp [BT.find] at h
  | .node k w l r, ha, h => by
    have hu : (BT.node k w l r).find q = Bool.rec (motive := fun _ => Option α) (Bool.rec (motive := fun _ => Option α) (r.find q) (l.find q) (Nat.ble q k)) (some w) (Nat.beq q k) := rfl
    rw [hu] at h
    cases e : Nat.beq q k with
    | true =>
      rw [e] at h
      cases h
      have := Nat.eq_of_beq_eq_true e
      subst this
      exact ha.1
    | false =>
      rw [e] at h
      cases e2 : Nat.ble q k with
      | true => rw [e2] at h; exact BT.find_all ha.2.1 h
      | false => rw [e2] at h; exact BT.find_all ha.2.2 h

structure Tb where
  fn : BT (List AV → CM)
  gor : BT (List AV → CM)
  afr : BT ((List AV → CM) × (List AV → CM) × List (Nat × (List AV → CM)))

def pickE (id : Nat) : List (Nat × (List AV → CM)) → Option (List AV → CM)
  | [] => none
  | (i, D) :: l => if Nat.beq id i = true then some D else pickE id l
def pickJ (t : (List AV → CM) × (List AV → CM) × List (Nat × (List AV → CM))) : Option Jmp → Option (List AV → CM)
  | none => some t.1
  | some .ret => some t.2.1
  | some (.exit id) => pickE id t.2.2

structure Tb.Ok (T : Tb) (E : Env) (M N : Nat → List Bool) : Prop where
  fn : T.fn.All fun f D => LeD (real E M N) D fun az m => run E (.fn f) az m
  gor : T.gor.All fun k D => LeD (real E M N) D fun ts m => goR E M k ts m
  afr : T.afr.All fun k t => LeD (real E M N) t.1 (fun ts m => afR E N k none ts m) ∧ LeD (real E M N) t.2.1 (fun ts m => afR E N k (some .ret) ts m) ∧
    ∀ iD ∈ t.2.2, LeD (real E M N) iD.2 fun ts m => afR E N k (some (.exit iD.1)) ts m

noncomputable def slowF (E : Env) (call : CallF) (n : Nat) (f : Nat) (az : List AV) (m : Mem) : R :=
  match E.H f with
  | some h => h az m
  | none => match E.B f with
    | some (rs, nt, c) => goF E call (.fn rs) n [.code c] (az ++ List.replicate (nt - az.length) .undef) m
    | none => none
noncomputable def slowY (E : Env) (call : CallF) (n : Nat) (b : Nat) (az : List AV) (m : Mem) : R := roundK m b az fun k t => goF E call (.rd b) n k t m

noncomputable def stepD (E : Env) (T : Tb) (n : Nat) (d : Do) : Do where
  call t az m := Tg.rec (motive := fun _ => R) (fun f => Option.rec (motive := fun _ => R) (slowF E d.call n f az m) (fun D => interp d (D az) m) (T.fn.find f)) (fun b => slowY E d.call n b az m) t
  gor k ts m := Option.rec (motive := fun _ => R) none (fun D => interp d (D ts) m) (T.gor.find k)
  afr k j ts m := ((T.afr.find k).bind fun t => pickJ t j).bind fun D => interp d (D ts) m
noncomputable def XD (E : Env) (T : Tb) (n : Nat) : Do := Nat.rec (motive := fun _ => Do) ⟨fun _ _ _ => none, fun _ _ _ => none, fun _ _ _ _ => none⟩ (fun n d => stepD E T n d) n

theorem Le.stepK {E : Env} {c c' : CallF} (h : ∀ f a m, Le (c f a m) (c' f a m)) {κ κ' : List AI → List AV → Mem → R} (hκ : ∀ k t m, Le (κ k t m) (κ' k t m)) (md : Md) (k : List AI) (t : List AV) (m : Mem) :
    Le (Abs.stepK E c md k t m κ) (Abs.stepK E c' md k t m κ') := by
  have hl : Lim (fun n => Abs.stepK E (if n = 0 then c else c') md k t m (if n = 0 then κ else κ')) (Abs.stepK E c' md k t m κ') := by
    refine Lim.stepK (call := fun n => if n = 0 then c else c') (κ := fun n => if n = 0 then κ else κ') ?_ md k t m ?_
    · intro f a m
      refine ⟨fun n => ?_, fun r hr => ⟨1, fun n hn => ?_⟩⟩
      · by_cases e : n = 0
        · simp only [e, if_true]; exact h _ _ _
        · simp only [e, if_false]; exact .refl _
      · simp only [show n ≠ 0 by omega, if_false]; exact hr
    · intro k t m
      refine ⟨fun n => ?_, fun r hr => ⟨1, fun n hn => ?_⟩⟩
      · by_cases e : n = 0
        · simp only [e, if_true]; exact hκ _ _ _
        · simp only [e, if_false]; exact .refl _
      · simp only [show n ≠ 0 by omega, if_false]; exact hr
  exact hl.1 0

theorem Le.goF {E : Env} {call : CallF} (h : ∀ f a m, Le (call f a m) (run E f a m)) (md : Md) : ∀ (n : Nat) k t m, Le (Abs.goF E call md n k t m) (go E md k t m)
  | 0, _, _, _ => .none _
  | n + 1, k, t, m => by rw [go_step]; exact Le.stepK h (fun k t m => Le.goF h md n k t m) md k t m

theorem slowF_le {E : Env} {call : CallF} (h : ∀ f a m, Le (call f a m) (run E f a m)) (n f : Nat) (az : List AV) (m : Mem) : Le (slowF E call n f az m) (run E (.fn f) az m) := by
  unfold slowF
  split
  · rename_i hH; rw [run_hook hH]; exact .refl _
  · rename_i hH
    split
    · rename_i hB; rw [run_body hH hB]; exact Le.goF h _ _ _ _ _
    · exact .none _
theorem slowY_le {E : Env} {call : CallF} (h : ∀ f a m, Le (call f a m) (run E f a m)) (n b : Nat) (az : List AV) (m : Mem) : Le (slowY E call n b az m) (run E (.yl b) az m) := by
  unfold slowY
  rw [run_round]
  unfold roundK
  split
  · split
    · exact Le.goF h _ _ _ _ _
    · exact .none _
  · exact .none _

theorem pickE_mem {id : Nat} {D : List AV → CM} : ∀ {l : List (Nat × (List AV → CM))}, pickE id l = some D → (id, D) ∈ l
  | [], h => by simp [pickE] at h
  | (i, D') :: l, h => by
    simp only [pickE] at h
    split at h
    · rename_i e
      cases h
      rw [Nat.eq_of_beq_eq_true e]; exact List.mem_cons_self
    · exact List.mem_cons_of_mem _ (pickE_mem h)

theorem XD_le {E : Env} {T : Tb} {M N : Nat → List Bool} (ok : T.Ok E M N) : ∀ n, (XD E T n).Le (real E M N)
  | 0 => ⟨fun _ _ _ => .none _, fun _ _ _ => .none _, fun _ _ _ _ => .none _⟩
  | n + 1 => by
    have ih := XD_le ok n
    refine ⟨fun t az m => ?_, fun k ts m => ?_, fun k j ts m => ?_⟩
    · cases t with
      | fn f =>
        show Le (Option.rec (motive := fun _ => R) (slowF E (XD E T n).call n f az m) (fun D => interp (XD E T n) (D az) m) (T.fn.find f)) (run E (.fn f) az m)
        cases e : T.fn.find f with
        | none => exact slowF_le ih.call _ _ _ _
        | some D => exact (interp_le ih _ _).trans (BT.find_all ok.fn e az m)
      | yl b => exact slowY_le ih.call _ _ _ _
    · show Le (Option.rec (motive := fun _ => R) none (fun D => interp (XD E T n) (D ts) m) (T.gor.find k)) (goR E M k ts m)
      cases e : T.gor.find k with
      | none => exact .none _
      | some D => exact (interp_le ih _ _).trans (BT.find_all ok.gor e ts m)
    · show Le (((T.afr.find k).bind fun t => pickJ t j).bind fun D => interp (XD E T n) (D ts) m) (afR E N k j ts m)
      cases e : T.afr.find k with
      | none => exact .none _
      | some t =>
        have hk := BT.find_all ok.afr e
        simp only [Option.bind_some]
        cases e2 : pickJ t j with
        | none => exact .none _
        | some D =>
          refine (interp_le ih _ _).trans ?_
          cases j with
          | none => simp only [pickJ, Option.some.injEq] at e2; subst e2; exact hk.1 ts m
          | some j =>
            cases j with
            | ret => simp only [pickJ, Option.some.injEq] at e2; subst e2; exact hk.2.1 ts m
            | exit id => simp only [pickJ] at e2; exact hk.2.2 _ (pickE_mem e2) ts m

theorem run_of_X {E : Env} {T : Tb} {M N : Nat → List Bool} (ok : T.Ok E M N) (n : Nat) {t : Tg} {az : List AV} {m : Mem} {r : AV × Mem} (h : (XD E T n).call t az m = some r) : run E t az m = some r :=
  (XD_le ok n).call t az m r h
end Go.Abs
end
section
namespace Go.Proofs.YtlginbmjiecglaaGreat.T
open Go Go.Abs Go.Proofs.YtlginbmjiecglaaGreat
set_option maxRecDepth 10000
noncomputable abbrev EH (H : FuncId → Option (List AV → Mem → R)) : Env := envOf Tryz.prog hints H
def mt : BT (List Bool) := (.node 258052 (bM 24 0)
(.node 118784 (bM 39 643)
(.node 57344 (bM 25 208)
(.node 36865 (bM 43 897)
(.node 24576 (bM 75 2)
(.node 12289 (bM 174 41021)
(.node 12288 (bM 174 8255)
.leaf .leaf) (.node 16384 (bM 14 1)
.leaf (.node 20480 (bM 37 1)
.leaf .leaf))) (.node 32768 (bM 62 3)
(.node 28672 (bM 39 0)
.leaf .leaf) (.node 32769 (bM 62 3)
.leaf (.node 36864 (bM 43 929)
.leaf .leaf)))) (.node 49153 (bM 124 95617)
(.node 45056 (bM 76 135)
(.node 36866 (bM 43 512)
.leaf .leaf) (.node 45057 (bM 76 135)
.leaf (.node 49152 (bM 124 93569)
.leaf .leaf))) (.node 49156 (bM 124 341249)
(.node 49154 (bM 124 341377)
.leaf (.node 49155 (bM 124 341249)
.leaf .leaf)) (.node 49157 (bM 124 337153)
.leaf (.node 53248 (bM 44 92)
.leaf .leaf))))) (.node 81920 (bM 13 1)
(.node 65541 (bM 55 140737488355853)
(.node 65536 (bM 55 140754670846637)
(.node 61440 (bM 60 4416)
.leaf .leaf) (.node 65538 (bM 55 140754668225165)
.leaf (.node 65539 (bM 55 140758963192461)
.leaf .leaf))) (.node 65544 (bM 55 12)
(.node 65542 (bM 55 175921860444684)
.leaf .leaf) (.node 73728 (bM 13 1)
.leaf (.node 77824 (bM 13 1)
.leaf .leaf)))) (.node 94210 (bM 23 9)
(.node 90112 (bM 28 81)
(.node 86016 (bM 25 80)
.leaf .leaf) (.node 94208 (bM 23 9)
.leaf (.node 94209 (bM 23 9)
.leaf .leaf))) (.node 106496 (bM 60 0)
(.node 94211 (bM 23 1)
.leaf (.node 98304 (bM 60 0)
.leaf .leaf)) (.node 110592 (bM 36 177)
.leaf (.node 114688 (bM 16 0)
.leaf .leaf)))))) (.node 241664 (bM 67 92)
(.node 184320 (bM 50 336)
(.node 147457 (bM 39 92)
(.node 135168 (bM 28 81)
(.node 131072 (bM 11 0)
.leaf .leaf) (.node 139264 (bM 60 0)
.leaf (.node 147456 (bM 39 92)
.leaf .leaf))) (.node 159744 (bM 57 22)
(.node 155648 (bM 19 82)
.leaf .leaf) (.node 159745 (bM 57 84)
.leaf (.node 167936 (bM 45 60)
.leaf .leaf)))) (.node 200705 (bM 54 451)
(.node 188417 (bM 54 451)
(.node 188416 (bM 54 451)
.leaf .leaf) (.node 188418 (bM 54 195)
.leaf (.node 200704 (bM 54 451)
.leaf .leaf))) (.node 217088 (bM 16 0)
(.node 200706 (bM 54 195)
.leaf (.node 212992 (bM 28 81)
.leaf .leaf)) (.node 221184 (bM 50 336)
.leaf (.node 237568 (bM 29 0)
.leaf .leaf))))) (.node 249857 (bM 17 61)
(.node 245762 (bM 67 22)
(.node 241666 (bM 67 580)
(.node 241665 (bM 67 1604)
.leaf .leaf) (.node 245760 (bM 67 22)
.leaf (.node 245761 (bM 67 22)
.leaf .leaf))) (.node 245765 (bM 67 100)
(.node 245763 (bM 67 6)
.leaf (.node 245764 (bM 67 100)
.leaf .leaf)) (.node 245766 (bM 67 100)
.leaf (.node 249856 (bM 17 61)
.leaf .leaf)))) (.node 253954 (bM 48 124)
(.node 249859 (bM 17 12)
(.node 249858 (bM 17 61)
.leaf .leaf) (.node 253952 (bM 48 124)
.leaf (.node 253953 (bM 48 124)
.leaf .leaf))) (.node 258049 (bM 24 44)
(.node 253955 (bM 48 48)
.leaf (.node 258048 (bM 24 44)
.leaf .leaf)) (.node 258050 (bM 24 0)
.leaf (.node 258051 (bM 24 44)
.leaf .leaf))))))) (.node 458752 (bM 23 25)
(.node 385024 (bM 26 12)
(.node 270341 (bM 42 124)
(.node 270336 (bM 42 124)
(.node 262145 (bM 29 252)
(.node 262144 (bM 29 252)
.leaf .leaf) (.node 262146 (bM 29 252)
.leaf (.node 262147 (bM 29 48)
.leaf .leaf))) (.node 270338 (bM 42 508)
(.node 270337 (bM 42 124)
.leaf .leaf) (.node 270339 (bM 42 508)
.leaf (.node 270340 (bM 42 508)
.leaf .leaf)))) (.node 294912 (bM 24 1798)
(.node 278528 (bM 24 1798)
(.node 270342 (bM 42 48)
.leaf .leaf) (.node 278529 (bM 24 1798)
.leaf (.node 278530 (bM 24 1798)
.leaf .leaf))) (.node 311296 (bM 24 1798)
(.node 294913 (bM 24 1798)
.leaf (.node 294914 (bM 24 1798)
.leaf .leaf)) (.node 311297 (bM 24 1798)
.leaf (.node 311298 (bM 24 1798)
.leaf .leaf))))) (.node 409602 (bM 31 252)
(.node 397315 (bM 117 16984)
(.node 397312 (bM 117 92)
(.node 385025 (bM 26 12)
.leaf .leaf) (.node 397313 (bM 117 4696)
.leaf (.node 397314 (bM 117 21080)
.leaf .leaf))) (.node 405504 (bM 22 84)
(.node 397316 (bM 117 21080)
.leaf (.node 397317 (bM 117 600)
.leaf .leaf)) (.node 409600 (bM 31 252)
.leaf (.node 409601 (bM 31 252)
.leaf .leaf)))) (.node 446466 (bM 25 214)
(.node 438272 (bM 37 256)
(.node 409603 (bM 31 48)
.leaf .leaf) (.node 446464 (bM 25 214)
.leaf (.node 446465 (bM 25 214)
.leaf .leaf))) (.node 454657 (bM 11 9)
(.node 446467 (bM 25 84)
.leaf (.node 454656 (bM 11 9)
.leaf .leaf)) (.node 454658 (bM 11 9)
.leaf (.node 454659 (bM 11 8)
.leaf .leaf)))))) (.node 483331 (bM 127 65084)
(.node 471041 (bM 28 13)
(.node 462852 (bM 24 20)
(.node 462849 (bM 24 21)
(.node 462848 (bM 24 5)
.leaf .leaf) (.node 462850 (bM 24 21)
.leaf (.node 462851 (bM 24 21)
.leaf .leaf))) (.node 466945 (bM 28 13)
(.node 466944 (bM 28 13)
.leaf .leaf) (.node 466946 (bM 28 13)
.leaf (.node 471040 (bM 28 13)
.leaf .leaf)))) (.node 479232 (bM 28 13)
(.node 475136 (bM 28 13)
(.node 471042 (bM 28 13)
.leaf .leaf) (.node 475137 (bM 28 13)
.leaf (.node 475138 (bM 28 13)
.leaf .leaf))) (.node 483328 (bM 127 60)
(.node 479233 (bM 28 13)
.leaf (.node 479234 (bM 28 13)
.leaf .leaf)) (.node 483329 (bM 127 65084)
.leaf (.node 483330 (bM 127 65084)
.leaf .leaf))))) (.node 491525 (bM 135 61188)
(.node 487426 (bM 28 13)
(.node 483333 (bM 127 24628)
(.node 483332 (bM 127 30780)
.leaf .leaf) (.node 487424 (bM 28 13)
.leaf (.node 487425 (bM 28 13)
.leaf .leaf))) (.node 491522 (bM 135 7)
(.node 491520 (bM 135 7)
.leaf (.node 491521 (bM 135 7)
.leaf .leaf)) (.node 491523 (bM 135 126724)
.leaf (.node 491524 (bM 135 126724)
.leaf .leaf)))) (.node 507904 (bM 47 70)
(.node 491527 (bM 135 509700)
(.node 491526 (bM 135 509700)
.leaf .leaf) (.node 491528 (bM 135 442628)
.leaf (.node 495616 (bM 29 2)
.leaf .leaf))) (.node 516096 (bM 25 5)
(.node 507905 (bM 47 70)
.leaf (.node 507906 (bM 47 70)
.leaf .leaf)) (.node 516097 (bM 25 5)
.leaf (.node 516098 (bM 25 5)
.leaf .leaf))))))))
def nt : BT (List Bool) := (.node 65537 (bM 55 140758963192461)
(.node 65536 (bM 55 140754670846637)
.leaf .leaf) (.node 65538 (bM 55 175921860444684)
.leaf .leaf))
noncomputable def Mk (k : Nat) : List Bool := (mt.find k).getD []
noncomputable def Nk (k : Nat) : List Bool := (nt.find k).getD []
noncomputable abbrev Rl (H : FuncId → Option (List AV → Mem → R)) : Do := real (EH H) Mk Nk
end Go.Proofs.YtlginbmjiecglaaGreat.T
end
