/- Texts of one claim, put together. -/
import Derived.Test.YtolmealocdgdhaaGreatK13
section
namespace Go.Proofs.YtolmealocdgdhaaGreat
open Go Go.Abs
set_option maxRecDepth 20000
set_option maxHeartbeats 4000000
variable {H : FuncId → Option (List AV → Mem → R)}
noncomputable abbrev Ea (H : FuncId → Option (List AV → Mem → R)) : Env := EX Tryz.prog U.B H
noncomputable abbrev Da (H : FuncId → Option (List AV → Mem → R)) : Do := real (Ea H) (Mq (Ea H)) (Nq (Ea H))
theorem tr_is (e : En Tryz.prog U.B) (hc : chkEn e = true) (hd : isDf e.rs = false) (h : H e.f = none) (xs : List AV) (m : Mem) (hn : e.t.fn xs ≠ .fail) : run (Ea H) (.fn e.f) xs m = interp (Da H) (e.t.fn xs) m := by
  have hr : rsOf (Ea H) e.f = e.rs := by unfold rsOf; rw [show (Ea H).B e.f = _ from e.hB]
  exact (((e.ok hc H).fn h (by rw [hr]; exact hd)) xs m).resolve_right hn
theorem tr_go (e : En Tryz.prog U.B) (hc : chkEn e = true) (k : Nat) (D : List AV → CM) (hD : pickE k e.t.gs = some D) (xs : List AV) (m : Mem) (hn : D xs ≠ .fail) : (Da H).gor k xs m = interp (Da H) (D xs) m :=
  (((e.ok hc H).gs _ (pickE_mem hD)) xs m).resolve_right hn
theorem Da_call (f : Nat) (xs : List AV) (m : Mem) : (Da H).call (.fn f) xs m = run (Ea H) (.fn f) xs m := rfl

theorem in_is (h : H 92 = none) (a b c : Int) (m : Mem) : run (Ea H) (.fn 92) [.int .i64 a, .int .i64 b, .int .i64 c] m = some (.bool (decide (b ≤ a) && decide (a ≤ c)), m) := by
  refine (tr_is (U.t92.enA rfl Tryz.func92 rfl rfl) (by kernel_rfl) (by kernel_rfl) h _ m ?_).trans ?_
  · exact nofun
  · show interp (Da H) ((U.t92.x (OX Tryz.prog U.B)).fn _) m = _
    simp only [U.t92, realO, interp_pu, interp_ifv, interp_ret, Option.bind_some, binA, intA, if_true]
    by_cases h1 : b ≤ a <;> simp [ifV, h1]

def pickF (n k : Int) : Int := if n.tmod k < 0 then IntKind.i64.wrap (n.tmod k + k) else n.tmod k
theorem pick_is (h : H 13 = none) (n k : Int) (hk : k ≠ 0) (m : Mem) : run (Ea H) (.fn 13) [.int .i64 n, .int .i64 k] m = some (.int .i64 (pickF n k), m) := by
  refine (tr_is (U.t13.enA rfl Tryz.func13 rfl rfl) (by kernel_rfl) (by kernel_rfl) h _ m ?_).trans ?_
  · exact nofun
  · show interp (Da H) ((U.t13.x (OX Tryz.prog U.B)).fn _) m = _
    have hg : ∀ x m, (Da H).gor 53248 [x] m = some (x, m) := fun x m => by
      refine (tr_go (U.t13.enA rfl Tryz.func13 rfl rfl) (by kernel_rfl) 53248 _ rfl _ m ?_).trans ?_
      · exact nofun
      · rfl
    simp only [U.t13, realO, interp_pu, interp_cond, interp_go, hg, Option.bind_some, binA, intA, if_true, hk, if_false]
    unfold pickF
    by_cases h1 : n.tmod k < 0 <;> simp [condA, h1]

theorem ld3 (p : AV) (m : Mem) : loadA Tryz.prog 3 p m = ld1 m p := by kernel_rfl
theorem ld22 (p : AV) (m : Mem) : loadA Tryz.prog 22 p m = ld1 m p := by kernel_rfl
theorem ld44 (p : AV) (m : Mem) : loadA Tryz.prog 44 p m = ldN m p 13 := by kernel_rfl
theorem ld73 (p : AV) (m : Mem) : loadA Tryz.prog 73 p m = ldN m p 13 := by kernel_rfl
theorem fa44 (b o : Nat) : (fieldAddrA Tryz.prog 44 (.ptr (some ⟨b, o⟩)) 0 = some (.ptr (some ⟨b, o + 0⟩))) ∧ (fieldAddrA Tryz.prog 44 (.ptr (some ⟨b, o⟩)) 1 = some (.ptr (some ⟨b, o + 1⟩))) ∧ (fieldAddrA Tryz.prog 44 (.ptr (some ⟨b, o⟩)) 2 = some (.ptr (some ⟨b, o + 2⟩))) ∧
    (fieldAddrA Tryz.prog 44 (.ptr (some ⟨b, o⟩)) 3 = some (.ptr (some ⟨b, o + 3⟩))) ∧ (fieldAddrA Tryz.prog 44 (.ptr (some ⟨b, o⟩)) 4 = some (.ptr (some ⟨b, o + 4⟩))) ∧ (fieldAddrA Tryz.prog 44 (.ptr (some ⟨b, o⟩)) 5 = some (.ptr (some ⟨b, o + 5⟩))) ∧
    (fieldAddrA Tryz.prog 44 (.ptr (some ⟨b, o⟩)) 6 = some (.ptr (some ⟨b, o + 6⟩))) ∧ (fieldAddrA Tryz.prog 44 (.ptr (some ⟨b, o⟩)) 7 = some (.ptr (some ⟨b, o + 7⟩))) ∧ (fieldAddrA Tryz.prog 44 (.ptr (some ⟨b, o⟩)) 8 = some (.ptr (some ⟨b, o + 8⟩))) ∧
    (fieldAddrA Tryz.prog 44 (.ptr (some ⟨b, o⟩)) 9 = some (.ptr (some ⟨b, o + 9⟩))) ∧ (fieldAddrA Tryz.prog 44 (.ptr (some ⟨b, o⟩)) 10 = some (.ptr (some ⟨b, o + 10⟩))) ∧ (fieldAddrA Tryz.prog 44 (.ptr (some ⟨b, o⟩)) 11 = some (.ptr (some ⟨b, o + 11⟩))) ∧
    (fieldAddrA Tryz.prog 44 (.ptr (some ⟨b, o⟩)) 12 = some (.ptr (some ⟨b, o + 12⟩))) := ⟨by kernel_rfl, by kernel_rfl, by kernel_rfl, by kernel_rfl, by kernel_rfl, by kernel_rfl, by kernel_rfl, by kernel_rfl, by kernel_rfl, by kernel_rfl, by kernel_rfl, by kernel_rfl, by kernel_rfl⟩
theorem fa73 (b o : Nat) : (fieldAddrA Tryz.prog 73 (.ptr (some ⟨b, o⟩)) 0 = some (.ptr (some ⟨b, o + 0⟩))) ∧ (fieldAddrA Tryz.prog 73 (.ptr (some ⟨b, o⟩)) 1 = some (.ptr (some ⟨b, o + 1⟩))) ∧ (fieldAddrA Tryz.prog 73 (.ptr (some ⟨b, o⟩)) 2 = some (.ptr (some ⟨b, o + 2⟩))) ∧
    (fieldAddrA Tryz.prog 73 (.ptr (some ⟨b, o⟩)) 3 = some (.ptr (some ⟨b, o + 3⟩))) ∧ (fieldAddrA Tryz.prog 73 (.ptr (some ⟨b, o⟩)) 4 = some (.ptr (some ⟨b, o + 4⟩))) ∧ (fieldAddrA Tryz.prog 73 (.ptr (some ⟨b, o⟩)) 5 = some (.ptr (some ⟨b, o + 5⟩))) ∧
    (fieldAddrA Tryz.prog 73 (.ptr (some ⟨b, o⟩)) 6 = some (.ptr (some ⟨b, o + 6⟩))) ∧ (fieldAddrA Tryz.prog 73 (.ptr (some ⟨b, o⟩)) 7 = some (.ptr (some ⟨b, o + 7⟩))) ∧ (fieldAddrA Tryz.prog 73 (.ptr (some ⟨b, o⟩)) 8 = some (.ptr (some ⟨b, o + 8⟩))) ∧
    (fieldAddrA Tryz.prog 73 (.ptr (some ⟨b, o⟩)) 9 = some (.ptr (some ⟨b, o + 9⟩))) ∧ (fieldAddrA Tryz.prog 73 (.ptr (some ⟨b, o⟩)) 10 = some (.ptr (some ⟨b, o + 10⟩))) ∧ (fieldAddrA Tryz.prog 73 (.ptr (some ⟨b, o⟩)) 11 = some (.ptr (some ⟨b, o + 11⟩))) ∧
    (fieldAddrA Tryz.prog 73 (.ptr (some ⟨b, o⟩)) 12 = some (.ptr (some ⟨b, o + 12⟩))) := ⟨by kernel_rfl, by kernel_rfl, by kernel_rfl, by kernel_rfl, by kernel_rfl, by kernel_rfl, by kernel_rfl, by kernel_rfl, by kernel_rfl, by kernel_rfl, by kernel_rfl, by kernel_rfl, by kernel_rfl⟩

theorem ifV_and (p q : Bool) (m : Mem) : ifV (.bool p) (some (AV.bool q, m)) (some (AV.bool false, m)) = some (AV.bool (p && q), m) := by cases p <;> rfl
theorem ifV_ite (p A B : Bool) (m : Mem) : ifV (.bool p) (some (AV.bool A, m)) (some (AV.bool B, m)) = some (AV.bool (bif p then A else B), m) := by cases p <;> rfl
theorem ifV_itex (p x A B : Bool) (m : Mem) : ifV (.bool p) (some (AV.bool (x && A), m)) (some (AV.bool (x && B), m)) = some (AV.bool (x && bif p then A else B), m) := by cases p <;> rfl
abbrev cl (a b c d e f g h i j k l z : Int) : List AV := [.int .i64 a, .int .i64 b, .int .i64 c, .int .i64 d, .int .i64 e, .int .i64 f, .int .i64 g, .int .i64 h, .int .i64 i, .int .i64 j, .int .i64 k, .int .i64 l, .int .u64 z]
section
variable {a b c d e f g h i j k l z : Int}
theorem boxA_agg : boxA (.agg (cl a b c d e f g h i j k l z)) = some (.cells (cl a b c d e f g h i j k l z) false, fun b => .ptr (some ⟨b, 0⟩)) := rfl
theorem may_is (h1 : H 48 = none) (h2 : H 92 = none) (a b c d e f g h i j k l z : Int) : ∃ r : Bool, ∀ m : Mem, run (Ea H) (.fn 48) [.agg (cl a b c d e f g h i j k l z)] m = some (.bool r, m.lay (.cells (cl a b c d e f g h i j k l z) false)) := by
  have g1 : ∃ r : Bool, ∀ (x y : Bool) (m : Mem), (Da H).gor 196609 [.ptr (some ⟨m.next, 0⟩), .bool x, .bool y] (m.lay (.cells (cl a b c d e f g h i j k l z) false)) = some (.bool (x && (y && r)), m.lay (.cells (cl a b c d e f g h i j k l z) false)) := by
    refine ⟨(decide (1 ≤ k) && decide (k ≤ 64)) && ((decide (1 ≤ l) && decide (l ≤ 16)) && (decide (z ≥ 1) && decide (z ≤ 72057594037927935))), fun x y m => ?_⟩
    refine (tr_go (U.t48.enA rfl Tryz.func48 rfl rfl) (by kernel_rfl) 196609 _ rfl _ _ ?_).trans ?_
    · exact nofun
    · simp only [realO, interp_pu, interp_ifv, interp_ret, interp_rm, interp_call, q1, Option.bind_some, fa44, ld3, ld22, ld1_lay, if_true, List.getElem?_cons_zero, List.getElem?_cons_succ, Nat.zero_add, Da_call, in_is h2, binA, intA, Int.ofNat_eq_natCast, Int.cast_ofNat_Int]
      simp only [ifV_and]
  obtain ⟨r, g1⟩ := g1
  have g0 : ∃ s : Bool, ∀ (x : Bool) (m : Mem), (Da H).gor 196608 [.ptr (some ⟨m.next, 0⟩), .bool x] (m.lay (.cells (cl a b c d e f g h i j k l z) false)) = some (.bool (x && s), m.lay (.cells (cl a b c d e f g h i j k l z) false)) := by
    refine ⟨?_, fun x m => ?_⟩
    rotate_left
    · refine (tr_go (U.t48.enA rfl Tryz.func48 rfl rfl) (by kernel_rfl) 196608 _ rfl _ _ ?_).trans ?_
      · exact nofun
      · simp only [realO, interp_pu, interp_ifv, interp_rm, interp_call, interp_go, q1, Option.bind_some, fa44, ld3, ld1_lay, if_true, List.getElem?_cons_zero, List.getElem?_cons_succ, Nat.zero_add, Da_call, in_is h2, Int.ofNat_eq_natCast, Int.cast_ofNat_Int, g1, ifV_itex]
        exact rfl
  obtain ⟨s, g0⟩ := g0
  by_cases ha : (decide (1 ≤ a) && decide (a ≤ 7)) = true
  · refine ⟨?_, fun m => ?_⟩
    rotate_left
    · refine (tr_is (U.t48.enA rfl Tryz.func48 rfl rfl) (by kernel_rfl) (by kernel_rfl) h1 _ m ?_).trans ?_
      · exact nofun
      · show interp (Da H) ((U.t48.x (OX Tryz.prog U.B)).fn _) m = _
        have hb : ¬ a < 0 := by simp at ha; omega
        simp only [U.t48]
        simp only [realO, interp_pu, interp_ifv, interp_rm, interp_al, boxA_agg, interp_memo, interp_call, interp_go, q1, Option.bind_some, fa44, ld3, ld1_lay, if_true, List.getElem?_cons_zero, List.getElem?_cons_succ, Nat.zero_add, Da_call, in_is h2, binA, intA, Int.ofNat_eq_natCast, Int.cast_ofNat_Int, g0, shA, hb, if_false, ifV_ite]
        exact rfl
  · refine ⟨false && s, fun m => ?_⟩
    refine (tr_is (U.t48.enA rfl Tryz.func48 rfl rfl) (by kernel_rfl) (by kernel_rfl) h1 _ m ?_).trans ?_
    · exact nofun
    · show interp (Da H) ((U.t48.x (OX Tryz.prog U.B)).fn _) m = _
      have ha' := Bool.eq_false_iff.2 ha
      simp only [U.t48]
      simp only [realO, interp_pu, interp_ifv, interp_rm, interp_al, boxA_agg, interp_memo, interp_call, interp_go, q1, Option.bind_some, fa44, ld3, ld1_lay, if_true, List.getElem?_cons_zero, Nat.zero_add, Da_call, in_is h2, binA, intA, Int.ofNat_eq_natCast, Int.cast_ofNat_Int, g0, ha', ifV]
end
end Go.Proofs.YtolmealocdgdhaaGreat
end
section
namespace Go.Proofs.YtolmealocdgdhaaGreat
open Go Go.Abs
set_option maxRecDepth 20000
set_option maxHeartbeats 4000000
variable {H : FuncId → Option (List AV → Mem → R)}
theorem Res.re {m : Mem} {r s : R} {v : AV} (e : r = s) (h : Res m s v) : Res m r v := by rw [e]; exact h
theorem lay_next' (m : Mem) (v : Blk) : (m.lay v).next = m.next + 1 := rfl
theorem ldN_cl (m : Mem) (a b c d e f g h i j k l z : Int) : ldN (m.lay (.cells (cl a b c d e f g h i j k l z) false)) (.ptr (some ⟨m.next, 0⟩)) 13 = some (.agg (cl a b c d e f g h i j k l z)) := by
  rw [ldN_lay, if_pos rfl]; rfl
theorem quiet35 (h0 : H 35 = none) (a b c d e f g h i j k l z : Int) (r : Bool) (hr : ∀ m : Mem, run (Ea H) (.fn 48) [.agg (cl a b c d e f g h i j k l z)] m = some (.bool r, m.lay (.cells (cl a b c d e f g h i j k l z) false))) (m : Mem) :
    Res m (run (Ea H) (.fn 35) [.agg (cl a b c d e f g h i j k l z)] m) (.bool (bif r then bif decide (d ≥ IntKind.i64.wrap (c + 24)) then bif decide (c ≥ 8) then bif decide (e ≤ 2) then bif decide (i ≥ 64) then bif h == 1048576 then decide (g ≥ 512) else false else false else false else false else false else false)) := by
  refine Res.re (tr_is (U.t35.enA rfl Tryz.func35 rfl rfl) (by kernel_rfl) (by kernel_rfl) h0 _ m ?_) ?_
  · exact nofun
  show Res m (interp (Da H) ((U.t35.x (OX Tryz.prog U.B)).fn _) m) _
  simp only [U.t35]
  simp only [realO, interp_pu, interp_ifv, interp_ret, interp_rm, interp_al, boxA_agg, interp_call, q1, Option.bind_some, fa44, ld3, ld44, ldN_cl, ld1_lay, lay_next', nn1, if_false, if_true, List.getElem?_cons_zero, List.getElem?_cons_succ, Nat.zero_add, Da_call, hr, binA, intA, Int.ofNat_eq_natCast, Int.cast_ofNat_Int, ifV_ite]
  exact Res.of (((Fr.refl m).lay _).lay _)
theorem quiet38 (h0 : H 38 = none) (a b c d e f g h i j k l z : Int) (r : Bool) (hr : ∀ m : Mem, run (Ea H) (.fn 48) [.agg (cl a b c d e f g h i j k l z)] m = some (.bool r, m.lay (.cells (cl a b c d e f g h i j k l z) false))) (m : Mem) :
    Res m (run (Ea H) (.fn 38) [.agg (cl a b c d e f g h i j k l z)] m) (.bool (bif r then bif decide (d ≥ IntKind.i64.wrap (c + 24)) then bif decide (c ≥ 8) then bif decide (e ≤ 2) then bif decide (i ≥ 64) then bif h == 1048576 then decide (g ≥ 512) else false else false else false else false else false else false)) := by
  refine Res.re (tr_is (U.t38.enA rfl Tryz.func38 rfl rfl) (by kernel_rfl) (by kernel_rfl) h0 _ m ?_) ?_
  · exact nofun
  show Res m (interp (Da H) ((U.t38.x (OX Tryz.prog U.B)).fn _) m) _
  simp only [U.t38]
  simp only [realO, interp_pu, interp_ifv, interp_ret, interp_rm, interp_al, boxA_agg, interp_call, q1, Option.bind_some, fa44, ld3, ld44, ldN_cl, ld1_lay, lay_next', nn1, if_false, if_true, List.getElem?_cons_zero, List.getElem?_cons_succ, Nat.zero_add, Da_call, hr, binA, intA, Int.ofNat_eq_natCast, Int.cast_ofNat_Int, ifV_ite]
  exact Res.of (((Fr.refl m).lay _).lay _)
theorem bound34 (h0 : H 34 = none) (a b c d e f g h i j k l z : Int) (r : Bool) (hr : ∀ m : Mem, run (Ea H) (.fn 48) [.agg (cl a b c d e f g h i j k l z)] m = some (.bool r, m.lay (.cells (cl a b c d e f g h i j k l z) false))) (m : Mem) :
    Res m (run (Ea H) (.fn 34) [.agg (cl a b c d e f g h i j k l z)] m) (.int .i64 (if r then IntKind.i64.wrap (IntKind.i64.wrap (IntKind.i64.wrap (60 * d) + IntKind.i64.wrap (40 * f)) + 4096) else 0)) := by
  refine Res.re (tr_is (U.t34.enA rfl Tryz.func34 rfl rfl) (by kernel_rfl) (by kernel_rfl) h0 _ m ?_) ?_
  · exact nofun
  show Res m (interp (Da H) ((U.t34.x (OX Tryz.prog U.B)).fn _) m) _
  simp only [U.t34]
  simp only [realO, interp_pu, interp_ret, interp_rm, interp_al, boxA_agg, interp_call, interp_go, interp_cond, q1, Option.bind_some, ld44, ldN_cl, Da_call, hr, intA, unA, Int.ofNat_eq_natCast, Int.cast_ofNat_Int, condA]
  cases r
  · exact Res.of (((Fr.refl m).lay _).lay _)
  · refine Res.re (tr_go (U.t34.enA rfl Tryz.func34 rfl rfl) (by kernel_rfl) 139264 _ rfl _ _ ?_) ?_
    · exact nofun
    · simp only [realO, interp_pu, interp_ret, interp_rm, q1, Option.bind_some, fa44, ld3, ld1_lay, lay_next', nn1, if_false, if_true, List.getElem?_cons_zero, List.getElem?_cons_succ, Nat.zero_add, binA, intA, Int.ofNat_eq_natCast, Int.cast_ofNat_Int]
      exact Res.of (((Fr.refl m).lay _).lay _)
theorem bound37 (h0 : H 37 = none) (a b c d e f g h i j k l z : Int) (r : Bool) (hr : ∀ m : Mem, run (Ea H) (.fn 48) [.agg (cl a b c d e f g h i j k l z)] m = some (.bool r, m.lay (.cells (cl a b c d e f g h i j k l z) false))) (m : Mem) :
    Res m (run (Ea H) (.fn 37) [.agg (cl a b c d e f g h i j k l z)] m) (.int .i64 (if r then IntKind.i64.wrap (IntKind.i64.wrap (IntKind.i64.wrap (60 * d) + IntKind.i64.wrap (40 * f)) + 4096) else 0)) := by
  refine Res.re (tr_is (U.t37.enA rfl Tryz.func37 rfl rfl) (by kernel_rfl) (by kernel_rfl) h0 _ m ?_) ?_
  · exact nofun
  show Res m (interp (Da H) ((U.t37.x (OX Tryz.prog U.B)).fn _) m) _
  simp only [U.t37]
  simp only [realO, interp_pu, interp_ret, interp_rm, interp_al, boxA_agg, interp_call, interp_go, interp_cond, q1, Option.bind_some, ld44, ldN_cl, Da_call, hr, intA, unA, Int.ofNat_eq_natCast, Int.cast_ofNat_Int, condA]
  cases r
  · exact Res.of (((Fr.refl m).lay _).lay _)
  · refine Res.re (tr_go (U.t37.enA rfl Tryz.func37 rfl rfl) (by kernel_rfl) 151552 _ rfl _ _ ?_) ?_
    · exact nofun
    · simp only [realO, interp_pu, interp_ret, interp_rm, q1, Option.bind_some, fa44, ld3, ld1_lay, lay_next', nn1, if_false, if_true, List.getElem?_cons_zero, List.getElem?_cons_succ, Nat.zero_add, binA, intA, Int.ofNat_eq_natCast, Int.cast_ofNat_Int]
      exact Res.of (((Fr.refl m).lay _).lay _)
end Go.Proofs.YtolmealocdgdhaaGreat
end
section
namespace Go.Proofs.YtolmealocdgdhaaGreat
open Go Go.Abs
set_option maxRecDepth 20000
set_option maxHeartbeats 200000
variable {H : FuncId → Option (List AV → Mem → R)}
abbrev rw13 (a b c d e f g h i j k l z : Int) : List AV := [.int .i64 a, .int .i64 b, .int .i64 c, .int .i64 d, .int .i64 e, .int .i64 f, .int .i64 g, .int .i64 h, .int .i64 i, .int .i64 j, .int .i64 k, .int .i64 l, .int .i64 z]
theorem boxA_raw (a b c d e f g h i j k l z : Int) : boxA (.agg (rw13 a b c d e f g h i j k l z)) = some (.cells (rw13 a b c d e f g h i j k l z) false, fun b => .ptr (some ⟨b, 0⟩)) := rfl
theorem over1 (cs : List AV) (o : Nat) (k : IntKind) (a : Int) (h : o < cs.length) : over cs o (.int k a) 1 = some (cs.set o (.int k a)) := by
  have hc : (AV.int k a).cells = some [.int k a] := rfl
  unfold over
  simp only [hc, List.length_cons, List.length_nil, if_true]
  rw [if_pos (by omega)]
  congr 1
  rw [List.set_eq_take_append_cons_drop, if_pos h]
  simp
theorem over13 (x0 x1 x2 x3 x4 x5 x6 x7 x8 x9 x10 x11 x12 : AV) (a b c d e f g h i j k l z : Int) : over [x0, x1, x2, x3, x4, x5, x6, x7, x8, x9, x10, x11, x12] 0 (.agg (cl a b c d e f g h i j k l z)) 13 = some (cl a b c d e f g h i j k l z) := by kernel_rfl
@[congr] theorem interp_cg {d : Do} {c : CM} {m m' : Mem} (h : m = m') : interp d c m = interp d c m' := by rw [h]
@[congr] theorem bind_cg {α β : Type} {x y : Option α} {f : α → Option β} (h : x = y) : x.bind f = y.bind f := by rw [h]
theorem interp_chk' {d : Do} {m : Mem} (v : AV) (K : CM) : interp d (.chk (some v) v K) m = interp d K m := if_pos rfl
theorem bld44 (x y : Int) : buildA Tryz.prog 44 [(0, .int .i64 x), (2, .int .i64 y)] = some (.agg (cl x 0 y 0 0 0 0 0 0 0 0 0 0)) := by kernel_rfl
theorem cv1 : convA Tryz.prog 3 178 (.int .i64 1) = some (.int .u64 1) ∧ convA Tryz.prog 3 178 (.int .i64 2) = some (.int .u64 2) ∧ convA Tryz.prog 3 178 (.int .i64 3) = some (.int .u64 3) ∧ convA Tryz.prog 3 178 (.int .i64 4) = some (.int .u64 4) ∧ convA Tryz.prog 3 178 (.int .i64 5) = some (.int .u64 5) := ⟨by kernel_rfl, by kernel_rfl, by kernel_rfl, by kernel_rfl, by kernel_rfl⟩
theorem sh1 : shA .shl .i64 1 1 = some (.int .i64 2) ∧ shA .shl .i64 1 2 = some (.int .i64 4) ∧ shA .shl .i64 1 3 = some (.int .i64 8) ∧ shA .shl .i64 1 4 = some (.int .i64 16) ∧ shA .shl .i64 1 5 = some (.int .i64 32) := ⟨by kernel_rfl, by kernel_rfl, by kernel_rfl, by kernel_rfl, by kernel_rfl⟩
theorem wr1 : IntKind.i64.wrap 1 = 1 ∧ IntKind.i64.wrap 2 = 2 ∧ IntKind.i64.wrap 3 = 3 ∧ IntKind.i64.wrap 4 = 4 ∧ IntKind.i64.wrap 5 = 5 ∧ IntKind.i64.wrap 7 = 7 ∧ IntKind.i64.wrap 15 = 15 ∧ IntKind.i64.wrap 31 = 31 := by decide
theorem pick5 (a : Int) : pickF a 5 = 0 ∨ pickF a 5 = 1 ∨ pickF a 5 = 2 ∨ pickF a 5 = 3 ∨ pickF a 5 = 4 := by
  have h1 := Int.tmod_lt_of_pos a (b := 5) (by decide)
  have h2 : -5 < a.tmod 5 := by
    have := Int.lt_tmod_of_pos a (b := 5) (by decide)
    omega
  unfold pickF
  generalize a.tmod 5 = n at *
  split
  · rw [wrap_i64_if]; split <;> omega
  · omega
theorem cv22 (x : Int) : convA Tryz.prog 3 22 (.int .i64 x) = some (.int .u64 (IntKind.u64.wrap x)) := by kernel_rfl
theorem ldN13 (m : Mem) (b : Nat) (x0 x1 x2 x3 x4 x5 x6 x7 x8 x9 x10 x11 x12 : AV) : ldN (m.lay (.cells [x0, x1, x2, x3, x4, x5, x6, x7, x8, x9, x10, x11, x12] false)) (.ptr (some ⟨b, 0⟩)) 13 = if b = m.next then some (.agg [x0, x1, x2, x3, x4, x5, x6, x7, x8, x9, x10, x11, x12]) else ldN m (.ptr (some ⟨b, 0⟩)) 13 := by
  rw [ldN_lay]; rfl
theorem resA1 (p : AV) (m : Mem) : resA Tryz.prog [.cell 0 44] [p] m = (ldN m p 13).map fun v => [v] := by
  rw [show ldN m p 13 = loadA Tryz.prog 44 p m from (ld44 p m).symm]
  simp only [resA]
  show (match loadA Tryz.prog 44 p m, some [] with | some v, some vs => some (v :: vs) | _, _ => none) = _
  cases loadA Tryz.prog 44 p m <;> rfl
theorem tupA1 (v : AV) : tupA [v] = v := rfl
theorem config_go (h1 : H 13 = none) (a b c d e f g h i j k l z : Int) (x0 x1 x2 x3 x4 x5 x6 x7 x8 x9 x10 x11 x12 : Int) (m : Mem) :
    ∃ y0 y1 y2 y3 y4 y5 y6 y7 y8 y9 y10 y11 y12 : Int, Res m ((Da H).gor 147456 [.ptr (some ⟨m.next, 0⟩), .ptr (some ⟨m.next + 1, 0⟩), .ptr (some ⟨m.next + 1 + 1, 0⟩)] (((m.lay (.cells (rw13 a b c d e f g h i j k l z) false)).lay (.cells (cl 0 0 0 0 0 0 0 0 0 0 0 0 0) false)).lay (.cells (cl x0 x1 x2 x3 x4 x5 x6 x7 x8 x9 x10 x11 x12) false))) (.agg (cl y0 y1 y2 y3 y4 y5 y6 y7 y8 y9 y10 y11 y12)) := by
  have pk : ∀ (n k : Int) (m : Mem), ¬ k = 0 → run (Ea H) (.fn 13) [.int .i64 n, .int .i64 k] m = some (.int .i64 (pickF n k), m) := fun n k m hk => pick_is h1 n k hk m
  refine ⟨?_, ?_, ?_, ?_, ?_, ?_, ?_, ?_, ?_, ?_, ?_, ?_, ?_, ?_⟩
  rotate_left 13
  · refine Res.re (tr_go (U.t36.enA rfl Tryz.func36 rfl rfl) (by kernel_rfl) 147456 _ rfl _ _ ?_) ?_
    · exact nofun
    · simp only [cv22, ldN13, interp_resC, resA1, tupA1, realO, interp_pu, interp_rm, interp_st, interp_call, q1, Option.bind_some, Option.map_some, fa44, fa73, ld3, ld44, ld1_lay, stV_lay, over1, over13, List.length_cons, List.length_nil, Nat.reduceAdd, Nat.reduceLT, List.set_cons_zero, List.set_cons_succ, lay_next', nn1, nn2, if_false, if_true, List.getElem?_cons_zero, List.getElem?_cons_succ, Nat.zero_add, Da_call, pk, Int.reduceEq, not_false_eq_true, binA, intA, Int.ofNat_eq_natCast, Int.cast_ofNat_Int]
      exact Res.of ((((Fr.refl m).lay _).lay _).lay _)
theorem config36 (h0 : H 36 = none) (h1 : H 13 = none) (a b c d e f g h i j k l z : Int) (m : Mem) :
    ∃ y0 y1 y2 y3 y4 y5 y6 y7 y8 y9 y10 y11 y12 : Int, Res m (run (Ea H) (.fn 36) [.agg (rw13 a b c d e f g h i j k l z)] m) (.agg (cl y0 y1 y2 y3 y4 y5 y6 y7 y8 y9 y10 y11 y12)) := by
  have pk : ∀ (n k : Int) (m : Mem), ¬ k = 0 → run (Ea H) (.fn 13) [.int .i64 n, .int .i64 k] m = some (.int .i64 (pickF n k), m) := fun n k m hk => pick_is h1 n k hk m
  rw [show run (Ea H) (.fn 36) [.agg (rw13 a b c d e f g h i j k l z)] m = _ from tr_is (U.t36.enA rfl Tryz.func36 rfl rfl) (by kernel_rfl) (by kernel_rfl) h0 _ m (by exact nofun)]
  show ∃ y0 y1 y2 y3 y4 y5 y6 y7 y8 y9 y10 y11 y12 : Int, Res m (interp (Da H) ((U.t36.x (OX Tryz.prog U.B)).fn _) m) (.agg (cl y0 y1 y2 y3 y4 y5 y6 y7 y8 y9 y10 y11 y12))
  simp only [U.t36]
  rcases pick5 a with hn | hn | hn | hn | hn
  all_goals
   simp only [hn, cv1, sh1, wr1, Int.reduceAdd, Int.reduceSub, realO, interp_pu, interp_rm, interp_al, interp_st, interp_chk', boxA_raw, interp_memo, interp_call, interp_go, interp_cond, pB, q1, Option.bind_some, Option.map_some, fa44, fa73, ld3, ld1_lay, stV_lay, over1, over13, bld44, List.length_cons, List.length_nil, Nat.reduceAdd, Nat.reduceLT, List.set_cons_zero, List.set_cons_succ, lay_next', nn1, nn2, if_false, if_true, List.getElem?_cons_zero, List.getElem?_cons_succ, Nat.zero_add, Da_call, pk, Int.reduceEq, not_false_eq_true, binA, intA, Int.ofNat_eq_natCast, Int.cast_ofNat_Int]
   cases (h.tmod 4 == 3) <;> exact config_go h1 _ _ _ _ _ _ _ _ _ _ _ _ _ _ _ _ _ _ _ _ _ _ _ _ _ _ m
end Go.Proofs.YtolmealocdgdhaaGreat
end
section
namespace Go.Proofs.YtolmealocdgdhaaGreat
open Go Go.Abs
set_option maxRecDepth 20000
set_option maxHeartbeats 400000
variable {H : FuncId → Option (List AV → Mem → R)}
theorem Fr.ld1' {m m' : Mem} (h : Fr m m' []) {b : Nat} (hb : b < m.next) (o : Nat) : ld1 m' (.ptr (some ⟨b, o⟩)) = ld1 m (.ptr (some ⟨b, o⟩)) := by
  simp only [ld1, h.2 b hb (by simp)]
theorem stV_box {m : Mem} {b : Nat} (z0 z1 z2 z3 z4 z5 z6 z7 z8 z9 z10 z11 z12 : AV) (hg : m.get b = some (.cells [z0, z1, z2, z3, z4, z5, z6, z7, z8, z9, z10, z11, z12] false)) (a b' c d e f g h i j k l z : Int) :
    stV m (.ptr (some ⟨b, 0⟩)) (.agg (cl a b' c d e f g h i j k l z)) 13 = some (m.put b (some (.cells (cl a b' c d e f g h i j k l z) false))) := by
  have hc : (AV.agg (cl a b' c d e f g h i j k l z)).cells = some (cl a b' c d e f g h i j k l z) := rfl
  simp only [stV, stCells, hc, hg, List.length_cons, List.length_nil, Nat.reduceAdd, if_true, Nat.zero_add, Nat.le_refl, List.take_zero, List.nil_append]
  rfl
theorem put_next' (m : Mem) (b : Nat) (v : Option Blk) : (m.put b v).next = m.next := rfl
theorem ldN_put {m : Mem} {b : Nat} (x0 x1 x2 x3 x4 x5 x6 x7 x8 x9 x10 x11 x12 : AV) (h : (m.put b (some (.cells [x0, x1, x2, x3, x4, x5, x6, x7, x8, x9, x10, x11, x12] false))).get b = some (.cells [x0, x1, x2, x3, x4, x5, x6, x7, x8, x9, x10, x11, x12] false)) : ldN (m.put b (some (.cells [x0, x1, x2, x3, x4, x5, x6, x7, x8, x9, x10, x11, x12] false))) (.ptr (some ⟨b, 0⟩)) 13 = some (.agg [x0, x1, x2, x3, x4, x5, x6, x7, x8, x9, x10, x11, x12]) := by
  simp only [ldN, ldCells, h]; rfl
theorem config26 (h0 : H 26 = none) (h1 : H 13 = none) (h2 : H 36 = none) (a b c d e f g h i j k l z : Int) (m : Mem) :
    ∃ y0 y1 y2 y3 y4 y5 y6 y7 y8 y9 y10 y11 y12 : Int, Res m (run (Ea H) (.fn 26) [.agg (rw13 a b c d e f g h i j k l z)] m) (.agg (cl y0 y1 y2 y3 y4 y5 y6 y7 y8 y9 y10 y11 y12)) := by
  have pk : ∀ (n k : Int) (m : Mem), ¬ k = 0 → run (Ea H) (.fn 13) [.int .i64 n, .int .i64 k] m = some (.int .i64 (pickF n k), m) := fun n k m hk => pick_is h1 n k hk m
  rw [show run (Ea H) (.fn 26) [.agg (rw13 a b c d e f g h i j k l z)] m = _ from tr_is (U.t26.enA rfl Tryz.func26 rfl rfl) (by kernel_rfl) (by kernel_rfl) h0 _ m (by exact nofun)]
  show ∃ y0 y1 y2 y3 y4 y5 y6 y7 y8 y9 y10 y11 y12 : Int, Res m (interp (Da H) ((U.t26.x (OX Tryz.prog U.B)).fn _) m) (.agg (cl y0 y1 y2 y3 y4 y5 y6 y7 y8 y9 y10 y11 y12))
  simp only [U.t26]
  simp only [realO, interp_al, interp_rm, interp_call, boxA_raw, pB, q1, Option.bind_some, ld73, ldN13, lay_next', nn1, if_true, if_false, Int.ofNat_eq_natCast, Int.cast_ofNat_Int, Da_call]
  obtain ⟨y0, y1, y2, y3, y4, y5, y6, y7, y8, y9, y10, y11, y12, m1, ee, hf⟩ := config36 h2 h1 a b c d e f g h i j k l z ((m.lay (.cells (rw13 a b c d e f g h i j k l z) false)).lay (.cells (cl 0 0 0 0 0 0 0 0 0 0 0 0 0) false))
  rw [ee]
  have hle : m.next + 1 + 1 ≤ m1.next := hf.1
  have n1 : (m.next = m1.next) = False := by simp; omega
  have n2 : (m.next + 1 = m1.next) = False := by simp; omega
  have hl : ∀ o, ld1 m1 (.ptr (some ⟨m.next, o⟩)) = (rw13 a b c d e f g h i j k l z)[o]? := fun o => by
    rw [Fr.ld1' hf (show m.next < m.next + 1 + 1 by omega)]
    simp only [ld1_lay, lay_next', nn1, if_true, if_false]
  refine ⟨?_, ?_, ?_, ?_, ?_, ?_, ?_, ?_, ?_, ?_, ?_, ?_, ?_, ?_⟩
  rotate_left 13
  · simp only [n1, n2, hl, interp_resC, resA1, ldN13, interp_pu, interp_rm, interp_st, interp_chk', interp_memo, interp_call, q1, Option.bind_some, Option.map_some, fa44, fa73, ld3, ld44, ld1_lay, stV_lay, over1, over13, List.length_cons, List.length_nil, Nat.reduceAdd, Nat.reduceLT, List.set_cons_zero, List.set_cons_succ, if_false, if_true, List.getElem?_cons_zero, List.getElem?_cons_succ, Nat.zero_add, Da_call, pk, Int.reduceEq, not_false_eq_true, binA, intA]
    have hz : m1.get (m.next + 1) = some (.cells (cl 0 0 0 0 0 0 0 0 0 0 0 0 0) false) := (hf.2 (m.next + 1) (show m.next + 1 < m.next + 1 + 1 by omega) (by simp)).trans (by simp [Mem.get_lay])
    simp only [stV_box _ _ _ _ _ _ _ _ _ _ _ _ _ hz, Option.map_some, Option.bind_some]
    rw [ldN13, put_next', if_neg (by omega), ldN_put _ _ _ _ _ _ _ _ _ _ _ _ _ (by rw [Mem.get_put, if_pos ⟨rfl, by omega⟩])]
    refine Res.of ⟨?_, ?_⟩
    · show m.next ≤ m1.next + 1; omega
    · intro q hq hn
      have h5 : q ≠ m.next + 1 := by omega
      have h6 : q ≠ m1.next := by omega
      have h7 : q ≠ m.next := by omega
      have h8 := hf.2 q (show q < m.next + 1 + 1 by omega) hn
      simp only [Mem.get_lay, Mem.get_put, put_next', lay_next', h5, h6, h7, if_false] at h8 ⊢
      exact h8
end Go.Proofs.YtolmealocdgdhaaGreat
end
section
namespace Go.Abs
open Go

noncomputable def PT.cut (n : Nat) (t : PT) : Nat → Nat → PT :=
  PT.rec (motive := fun _ => Nat → Nat → PT) (fun _ _ => .leaf)
    (fun v _ _ ihl ihr s off => .node (Bool.rec (motive := fun _ => Option Blk) none v (Nat.blt off n)) (ihl (Nat.mul 2 s) (Nat.add off s)) (ihr (Nat.mul 2 s) (Nat.add off (Nat.mul 2 s)))) t
theorem PT.cut_get {n : Nat} : ∀ (t : PT) (s off k : Nat), (PT.cut n t s off).get k = if off + s * k < n then t.get k else none
  | .leaf, s, off, k => by
    show PT.leaf.get k = _
    rw [PT.get_leaf]; split <;> rfl
  | .node v l r, s, off, k => by
    have hu : PT.cut n (.node v l r) s off = .node (Bool.rec (motive := fun _ => Option Blk) none v (Nat.blt off n)) (PT.cut n l (2 * s) (off + s)) (PT.cut n r (2 * s) (off + 2 * s)) := rfl
    rw [hu, PT.get_node', PT.get_node']
    by_cases h0 : k = 0
    · subst h0
      simp only [if_true, Nat.mul_zero, Nat.add_zero]
      rw [bltN]
      by_cases h : off < n
      · rw [if_pos h, decide_eq_true h]
      · rw [if_neg h, decide_eq_false h]
    · simp only [if_neg h0]
      by_cases e : k % 2 = 1
      · simp only [if_pos e]
        rw [PT.cut_get l, place_odd e]
      · simp only [if_neg e]
        rw [PT.cut_get r, place_even h0 e]

noncomputable def putsT (l : List (Nat × Blk)) (t : PT) : PT := List.rec (motive := fun _ => PT → PT) (fun t => t) (fun x _ ih t => ih (t.set x.1 (some x.2))) l t
noncomputable def getL (l : List (Nat × Blk)) (k : Nat) : Option Blk := List.rec (motive := fun _ => Option Blk) none (fun x _ ih => Option.rec (motive := fun _ => Option Blk) (Bool.rec (motive := fun _ => Option Blk) none (some x.2) (Nat.beq x.1 k)) some ih) l
theorem putsT_get : ∀ (l : List (Nat × Blk)) (t : PT) (k : Nat), (putsT l t).get k = match getL l k with | some v => some v | none => t.get k
  | [], t, k => rfl
  | x :: l, t, k => by
    have hu : putsT (x :: l) t = putsT l (t.set x.1 (some x.2)) := rfl
    have hg : getL (x :: l) k = Option.rec (motive := fun _ => Option Blk) (Bool.rec (motive := fun _ => Option Blk) none (some x.2) (Nat.beq x.1 k)) some (getL l k) := rfl
    rw [hu, putsT_get l, hg]
    cases getL l k with
    | some v => rfl
    | none =>
      show (t.set x.1 (some x.2)).get k = match (Bool.rec (motive := fun _ => Option Blk) none (some x.2) (Nat.beq x.1 k) : Option Blk) with | some v => some v | none => t.get k
      rw [PT.get_set, beqN]
      by_cases h : x.1 = k
      · rw [decide_eq_true h, if_pos h.symm]
      · rw [decide_eq_false h, if_neg (fun e => h e.symm)]

noncomputable def putsO (l : List (Nat × Option Blk)) (t : PT) : PT := List.rec (motive := fun _ => PT → PT) (fun t => t) (fun x _ ih t => ih (t.set x.1 x.2)) l t
noncomputable def getO (l : List (Nat × Option Blk)) (k : Nat) : Option (Option Blk) := List.rec (motive := fun _ => Option (Option Blk)) none (fun x _ ih => Option.rec (motive := fun _ => Option (Option Blk)) (Bool.rec (motive := fun _ => Option (Option Blk)) none (some x.2) (Nat.beq x.1 k)) some ih) l
theorem putsO_get : ∀ (l : List (Nat × Option Blk)) (t : PT) (k : Nat), (putsO l t).get k = match getO l k with | some v => v | none => t.get k
  | [], t, k => rfl
  | x :: l, t, k => by
    have hu : putsO (x :: l) t = putsO l (t.set x.1 x.2) := rfl
    have hg : getO (x :: l) k = Option.rec (motive := fun _ => Option (Option Blk)) (Bool.rec (motive := fun _ => Option (Option Blk)) none (some x.2) (Nat.beq x.1 k)) some (getO l k) := rfl
    rw [hu, putsO_get l, hg]
    cases getO l k with
    | some v => rfl
    | none =>
      show (t.set x.1 x.2).get k = match (Bool.rec (motive := fun _ => Option (Option Blk)) none (some x.2) (Nat.beq x.1 k) : Option (Option Blk)) with | some v => v | none => t.get k
      rw [PT.get_set, beqN]
      by_cases h : x.1 = k
      · rw [decide_eq_true h, if_pos h.symm]
      · rw [decide_eq_false h, if_neg (fun e => h e.symm)]

structure Frz where
  args : List AV
  next : Nat
  pre : List (Nat × Blk)
  r : AV
  next2 : Nat
  post : List (Nat × Option Blk)
noncomputable def Frz.M (e : Frz) : Mem := ⟨e.next, putsT e.pre .leaf⟩
noncomputable def Frz.M2 (e : Frz) : Mem := ⟨e.next2, putsO e.post (putsT e.pre .leaf)⟩
noncomputable def allL {α : Type} (p : α → Bool) (l : List α) : Bool := List.rec (motive := fun _ => Bool) true (fun x _ ih => Bool.rec (motive := fun _ => Bool) false ih (p x)) l
theorem allL_iff {α : Type} {p : α → Bool} : ∀ {l : List α}, allL p l = true → ∀ x ∈ l, p x = true
  | [], _, _, h => by cases h
  | y :: l, h, x, hx => by
    have hu : allL p (y :: l) = Bool.rec (motive := fun _ => Bool) false (allL p l) (p y) := rfl
    rw [hu] at h
    cases hy : p y with
    | false => rw [hy] at h; cases h
    | true =>
      rw [hy] at h
      rcases List.mem_cons.1 hx with rfl | hx
      · exact hy
      · exact allL_iff h x hx
noncomputable def sameAt (m : Mem) (x : Nat × Blk) : Bool := Option.rec (motive := fun _ => Bool) false (fun v => Blk.same v x.2) (m.get x.1)
theorem sameAt_iff {m : Mem} {x : Nat × Blk} (h : sameAt m x = true) : m.get x.1 = some x.2 := by
  unfold sameAt at h
  cases e : m.get x.1 with
  | none => rw [e] at h; cases h
  | some v => rw [e] at h; rw [Blk.same_eq h]
noncomputable def hasKf (l : List (Nat × Blk)) (k : Nat) : Bool := List.rec (motive := fun _ => Bool) false (fun x _ ih => Bool.rec (motive := fun _ => Bool) ih true (Nat.beq x.1 k)) l
theorem hasKf_iff : ∀ {l : List (Nat × Blk)} {k : Nat}, hasKf l k = true → ∃ v, getL l k = some v
  | [], k, h => by cases h
  | x :: l, k, h => by
    have hu : hasKf (x :: l) k = Bool.rec (motive := fun _ => Bool) (hasKf l k) true (Nat.beq x.1 k) := rfl
    have hg : getL (x :: l) k = Option.rec (motive := fun _ => Option Blk) (Bool.rec (motive := fun _ => Option Blk) none (some x.2) (Nat.beq x.1 k)) some (getL l k) := rfl
    rw [hu] at h
    rw [hg]
    cases hl : getL l k with
    | some v => exact ⟨v, rfl⟩
    | none =>
      cases hb : Nat.beq x.1 k with
      | true => exact ⟨x.2, rfl⟩
      | false =>
        rw [hb] at h
        obtain ⟨v, hv⟩ := hasKf_iff (show hasKf l k = true from h)
        rw [hl] at hv; cases hv
noncomputable def hasO (l : List (Nat × Option Blk)) (k : Nat) : Bool := List.rec (motive := fun _ => Bool) false (fun x _ ih => Bool.rec (motive := fun _ => Bool) ih true (Nat.beq x.1 k)) l
theorem hasO_iff : ∀ {l : List (Nat × Option Blk)} {k : Nat}, hasO l k = true → ∃ v, getO l k = some v
  | [], k, h => by cases h
  | x :: l, k, h => by
    have hu : hasO (x :: l) k = Bool.rec (motive := fun _ => Bool) (hasO l k) true (Nat.beq x.1 k) := rfl
    have hg : getO (x :: l) k = Option.rec (motive := fun _ => Option (Option Blk)) (Bool.rec (motive := fun _ => Option (Option Blk)) none (some x.2) (Nat.beq x.1 k)) some (getO l k) := rfl
    rw [hu] at h
    rw [hg]
    cases hl : getO l k with
    | some v => exact ⟨v, rfl⟩
    | none =>
      cases hb : Nat.beq x.1 k with
      | true => exact ⟨x.2, rfl⟩
      | false =>
        rw [hb] at h
        obtain ⟨v, hv⟩ := hasO_iff (show hasO l k = true from h)
        rw [hl] at hv; cases hv
theorem getO_mem : ∀ {l : List (Nat × Option Blk)} {k : Nat} {v : Option Blk}, getO l k = some v → (k, v) ∈ l
  | [], k, v, h => by cases h
  | x :: l, k, v, h => by
    have hg : getO (x :: l) k = Option.rec (motive := fun _ => Option (Option Blk)) (Bool.rec (motive := fun _ => Option (Option Blk)) none (some x.2) (Nat.beq x.1 k)) some (getO l k) := rfl
    rw [hg] at h
    cases hl : getO l k with
    | some w => rw [hl] at h; cases h; exact List.mem_cons_of_mem _ (getO_mem hl)
    | none =>
      rw [hl] at h
      replace h : (Bool.rec (motive := fun _ => Option (Option Blk)) none (some x.2) (Nat.beq x.1 k) : Option (Option Blk)) = some v := h
      rw [beqN] at h
      by_cases e : x.1 = k
      · rw [decide_eq_true e] at h; cases h; rw [← e]; exact List.mem_cons_self
      · rw [decide_eq_false e] at h; cases h
noncomputable def isAt (m : Mem) (x : Nat × Option Blk) : Bool := Option.rec (motive := fun _ => Bool) (Option.rec (motive := fun _ => Bool) true (fun _ => false) (m.get x.1)) (fun v => sameAt m (x.1, v)) x.2
theorem isAt_iff {m : Mem} {x : Nat × Option Blk} (h : isAt m x = true) : m.get x.1 = x.2 := by
  obtain ⟨k, v⟩ := x
  cases v with
  | some v => exact sameAt_iff (x := (k, v)) h
  | none =>
    have h' : (Option.rec (motive := fun _ => Bool) true (fun _ => false) (m.get k) : Bool) = true := h
    show m.get k = none
    cases e : m.get k with
    | none => rfl
    | some u => rw [e] at h'; cases h'
theorem getL_mem : ∀ {l : List (Nat × Blk)} {k : Nat} {v : Blk}, getL l k = some v → (k, v) ∈ l
  | [], k, v, h => by cases h
  | x :: l, k, v, h => by
    have hg : getL (x :: l) k = Option.rec (motive := fun _ => Option Blk) (Bool.rec (motive := fun _ => Option Blk) none (some x.2) (Nat.beq x.1 k)) some (getL l k) := rfl
    rw [hg] at h
    cases hl : getL l k with
    | some w => rw [hl] at h; cases h; exact List.mem_cons_of_mem _ (getL_mem hl)
    | none =>
      rw [hl] at h
      replace h : (Bool.rec (motive := fun _ => Option Blk) none (some x.2) (Nat.beq x.1 k) : Option Blk) = some v := h
      rw [beqN] at h
      by_cases e : x.1 = k
      · rw [decide_eq_true e] at h; cases h; rw [← e]; exact List.mem_cons_self
      · rw [decide_eq_false e] at h; cases h

noncomputable def Frz.chk (e : Frz) (X : List AV → Mem → R) : Bool :=
  Option.rec (motive := fun _ => Bool) false (fun r => AV.beq r.1 e.r && (Nat.beq r.2.next e.next2 && (allL (fun x => Nat.blt x.1 e.next && (hasO e.post x.1 || sameAt r.2 x)) e.pre && allL (fun x => isAt r.2 x && (Nat.ble e.next x.1 || hasKf e.pre x.1)) e.post))) (X e.args e.M)

theorem Sim.drop2 {P : Program} {p p' : Phi} {m m1 m2 : Mem} {w w' : World} (s : Sim P p m w p' m1 w') (hn : m2.next = m1.next) (h1 : ∀ b, b < m.next → m.get b ≠ none → m2.get b = m1.get b) (h2 : ∀ b, m2.get b = m1.get b ∨ m2.get b = none) : Sim P p m w p' m2 w' := by
  refine s.drop ⟨hn, fun b hb => ?_, h2⟩
  by_cases e : m.get b = none
  · rw [s.dead b hb e]
    rcases h2 b with g | g
    · rw [g]; exact s.dead b hb e
    · exact g
  · exact h1 b hb e
theorem FnOk.drop2 {P : Program} {f : FuncId} {args : List AV} {m m1 m2 : Mem} {r : AV} (h : FnOk P (.fn f) args m r m1) (hn : m2.next = m1.next) (h1 : ∀ b, b < m.next → m.get b ≠ none → m2.get b = m1.get b) (h2 : ∀ b, m2.get b = m1.get b ∨ m2.get b = none) : FnOk P (.fn f) args m r m2 := by
  refine ⟨by rw [hn]; exact h.1, fun p w cargs hm hG hf hv => ?_⟩
  rcases h.2 p w cargs hm hG (by rw [← hn]; exact hf) hv with ⟨fn, g1, g2, g3, g4⟩ | ⟨cv, w', q, g1, g2, g3⟩
  · refine .inl ⟨fn, g1, g2, g3, g4.mono ?_⟩
    rintro e w' ⟨cv, q, rfl, g5, g6⟩
    exact ⟨cv, q, rfl, g5, g6.drop2 hn h1 h2⟩
  · exact .inr ⟨cv, w', q, g1, g2, g3.drop2 hn h1 h2⟩

theorem Frz.M_get (e : Frz) (k : Nat) : e.M.get k = if k < e.next then getL e.pre k else none := by
  rw [Mem.get_def]
  show (if k < e.next then (putsT e.pre .leaf).get k else none) = _
  rw [putsT_get, PT.get_leaf]
  cases getL e.pre k <;> rfl
theorem Frz.M2_get (e : Frz) (k : Nat) : e.M2.get k = if k < e.next2 then (match getO e.post k with | some v => v | none => getL e.pre k) else none := by
  rw [Mem.get_def]
  show (if k < e.next2 then (putsO e.post (putsT e.pre .leaf)).get k else none) = _
  rw [putsO_get, putsT_get, PT.get_leaf]
  cases getO e.post k <;> cases getL e.pre k <;> rfl

theorem Frz.run_ok {P : Program} {f : FuncId} {e : Frz} {X : List AV → Mem → R} (hX : ∀ args m r m', X args m = some (r, m') → FnOk P (.fn f) args m r m') (h : e.chk X = true) : FnOk P (.fn f) e.args e.M e.r e.M2 ∧ (∀ x ∈ e.pre, x.1 < e.next) ∧ ∀ x ∈ e.post, e.next ≤ x.1 ∨ hasKf e.pre x.1 = true := by
  unfold Frz.chk at h
  cases hx : X e.args e.M with
  | none => rw [hx] at h; cases h
  | some r =>
    obtain ⟨v, m1⟩ := r
    rw [hx] at h
    simp only [Bool.and_eq_true] at h
    obtain ⟨h1, h2, h3, h4⟩ := h
    have e1 := AV.eq_of_beq h1
    have e2 := Nat.eq_of_beq_eq_true h2
    subst e1
    have hf := hX _ _ _ _ hx
    have hpre : ∀ x ∈ e.pre, x.1 < e.next := fun x hx => by
      have := allL_iff h3 x hx
      simp only [Bool.and_eq_true] at this
      have h5 := this.1
      rw [bltN] at h5
      exact of_decide_eq_true h5
    have hval : ∀ k v, e.M2.get k = some v → m1.get k = some v := fun k v hk => by
      rw [Frz.M2_get] at hk
      split at hk
      · cases hp : getO e.post k with
        | some u =>
          rw [hp] at hk
          simp only at hk
          subst hk
          have := allL_iff h4 _ (getO_mem hp)
          simp only [Bool.and_eq_true] at this
          exact isAt_iff this.1
        | none =>
          rw [hp] at hk
          simp only at hk
          have := allL_iff h3 _ (getL_mem hk)
          simp only [Bool.and_eq_true, Bool.or_eq_true] at this
          rcases this.2 with h6 | h6
          · obtain ⟨u, hu⟩ := hasO_iff h6
            rw [hp] at hu; cases hu
          · exact sameAt_iff h6
      · cases hk
    refine ⟨hf.drop2 e2.symm (fun b hb hn => ?_) (fun b => ?_), hpre, fun x hx => ?_⟩
    · rw [Frz.M_get] at hn
      have hb' : b < e.next := hb
      rw [if_pos hb'] at hn
      have hle : e.next ≤ m1.next := hf.1
      rw [Frz.M2_get, if_pos (by omega)]
      cases hp : getO e.post b with
      | some u =>
        have := allL_iff h4 _ (getO_mem hp)
        simp only [Bool.and_eq_true] at this
        exact (isAt_iff this.1).symm
      | none =>
        cases hg : getL e.pre b with
        | none => exact absurd hg hn
        | some u => exact (hval b u (by rw [Frz.M2_get, if_pos (by omega), hp]; exact hg)).symm
    · cases hg : e.M2.get b with
      | none => exact .inr rfl
      | some u => exact .inl (hval b u hg).symm
    · have := allL_iff h4 x hx
      simp only [Bool.and_eq_true, Bool.or_eq_true] at this
      rcases this.2 with h6 | h6
      · exact .inl (Nat.le_of_ble_eq_true h6)
      · exact .inr h6

noncomputable def Frz.fits (e : Frz) (args : List AV) (m : Mem) : Bool := Nat.beq m.next e.next && (AV.beqs args e.args && allL (sameAt m) e.pre)
noncomputable def Frz.out (e : Frz) (m : Mem) : AV × Mem := (e.r, ⟨e.next2, putsO e.post (PT.cut e.next m.tab 1 0)⟩)
noncomputable def frzH (l : List Frz) (X : List AV → Mem → R) (args : List AV) (m : Mem) : R := List.rec (motive := fun _ => R) (X args m) (fun e _ ih => Bool.rec (motive := fun _ => R) ih (some (e.out m)) (e.fits args m)) l
theorem Frz.out_ok {P : Program} {f : FuncId} {e : Frz} (h : FnOk P (.fn f) e.args e.M e.r e.M2 ∧ (∀ x ∈ e.pre, x.1 < e.next) ∧ ∀ x ∈ e.post, e.next ≤ x.1 ∨ hasKf e.pre x.1 = true) {args : List AV} {m : Mem} (hf : e.fits args m = true) :
    FnOk P (.fn f) args m e.r ⟨e.next2, putsO e.post (PT.cut e.next m.tab 1 0)⟩ := by
  obtain ⟨h, hpre, hpost⟩ := h
  unfold Frz.fits at hf
  simp only [Bool.and_eq_true] at hf
  obtain ⟨h1, h2, h3⟩ := hf
  have hn := Nat.eq_of_beq_eq_true h1
  rw [AV.eqs_of_beqs h2]
  have hin : ∀ k v, getL e.pre k = some v → m.get k = some v := fun k v hk => sameAt_iff (allL_iff h3 _ (getL_mem hk))
  have g2 : ∀ k, (⟨e.next2, putsO e.post (PT.cut e.next m.tab 1 0)⟩ : Mem).get k = if k < e.next2 then (match getO e.post k with | some v => v | none => m.get k) else none := fun k => by
    rw [Mem.get_def]
    show (if k < e.next2 then (putsO e.post (PT.cut e.next m.tab 1 0)).get k else none) = _
    rw [putsO_get, PT.cut_get, Mem.get_def, hn]
    simp only [Nat.zero_add, Nat.one_mul]
  have hle : e.next ≤ e.next2 := h.1
  refine h.frame ⟨hn.symm, fun b => ?_, rfl, fun b hb h0 => ?_, fun b hb => ?_⟩
  · rw [Frz.M_get]
    split
    · cases hg : getL e.pre b with
      | none => exact .inl rfl
      | some v => exact .inr (hin b v hg).symm
    · exact .inl rfl
  · rw [Frz.M_get, if_pos (by omega)] at h0
    rw [g2, if_pos (by omega)]
    cases hp : getO e.post b with
    | none => rfl
    | some v =>
      rcases hpost _ (getO_mem hp) with h6 | h6
      · simp only at h6; omega
      · obtain ⟨u, hu⟩ := hasKf_iff h6
        simp only at hu
        rw [h0] at hu; cases hu
  · rw [g2, Frz.M2_get]
    by_cases h5 : b < e.next2
    · rw [if_pos h5, if_pos h5]
      cases hp : getO e.post b with
      | some v => rfl
      | none =>
        simp only
        cases hg : getL e.pre b with
        | some v => rw [hin b v hg]
        | none =>
          by_cases hlt : b < m.next
          · refine absurd ⟨hlt, ?_⟩ hb
            rw [Frz.M_get, hg]; split <;> rfl
          · exact Mem.get_ge (by omega)
    · rw [if_neg h5, if_neg h5]
theorem frzH_ok {P : Program} {f : FuncId} {X : List AV → Mem → R} (hX : ∀ args m r m', X args m = some (r, m') → FnOk P (.fn f) args m r m') : ∀ {l : List Frz}, (∀ e ∈ l, FnOk P (.fn f) e.args e.M e.r e.M2 ∧ (∀ x ∈ e.pre, x.1 < e.next) ∧ ∀ x ∈ e.post, e.next ≤ x.1 ∨ hasKf e.pre x.1 = true) →
    ∀ args m r m', frzH l X args m = some (r, m') → FnOk P (.fn f) args m r m'
  | [], _, args, m, r, m', h => hX args m r m' h
  | e :: l, hl, args, m, r, m', h => by
    have hu : frzH (e :: l) X args m = Bool.rec (motive := fun _ => R) (frzH l X args m) (some (e.out m)) (e.fits args m) := rfl
    rw [hu] at h
    cases hf : e.fits args m with
    | true =>
      rw [hf] at h
      cases h
      exact Frz.out_ok (hl e List.mem_cons_self) hf
    | false =>
      rw [hf] at h
      exact frzH_ok hX (fun x hx => hl x (List.mem_cons_of_mem _ hx)) args m r m' h
theorem EnvOk.hookN {E : Env} (hE : EnvOk E) (f : FuncId) {h : List AV → Mem → R} (hh : ∀ args m r m', h args m = some (r, m') → FnOk E.P (.fn f) args m r m') : EnvOk { E with H := Abs.hookAt f h E.H } where
  mixed := hE.mixed
  body := fun x hx rs nt c hB => by
    by_cases e : x = f
    · subst e
      have := hookAt_same x h E.H
      rw [show Abs.hookAt x h E.H x = none from hx] at this; cases this
    · exact hE.body x ((hookAt_other e h E.H).symm.trans hx) rs nt c hB
  hook := fun x g hx => by
    by_cases e : x = f
    · subst e
      have := hookAt_same x h E.H
      rw [show Abs.hookAt x h E.H x = some g from hx] at this
      cases this
      exact hh
    · exact hE.hook x g ((hookAt_other e h E.H).symm.trans hx)
noncomputable def upd (l : List (Nat × Blk)) (p : List (Nat × Option Blk)) : List (Nat × Blk) := List.rec (motive := fun _ => List (Nat × Blk)) (List.rec (motive := fun _ => List (Nat × Blk)) [] (fun x _ ih => Option.rec (motive := fun _ => List (Nat × Blk)) ih (fun v => (x.1, v) :: ih) x.2) p) (fun x _ ih => Bool.rec (motive := fun _ => List (Nat × Blk)) (x :: ih) ih (hasO p x.1)) l
def b8 (l : List Nat) : List AV := l.map fun n => .int .u8 (.ofNat n)
end Go.Abs
end
