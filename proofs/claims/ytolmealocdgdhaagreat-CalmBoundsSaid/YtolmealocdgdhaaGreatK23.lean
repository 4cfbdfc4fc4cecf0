/- Texts of one claim, put together. -/
import Derived.Test.YtolmealocdgdhaaGreatK22
section
namespace Go.Abs
open Go

def closedH (v : AV) (args : List AV) (m : Mem) : R :=
  match args with
  | [] => some (v, m)
  | _ :: _ => none

theorem closed_ok {E : Env} (hE : EnvOk E) {f : FuncId} {fn : Func} (hfn : E.P.funcs[f]? = some fn) (hb : fn.body.isSome = true) (hn : fn.name ≠ "runtime.NumGoroutine") {b : Bool} {m1 : Mem}
    (h : run E (.fn f) [] (noM (GP E.P)) = some (.bool b, m1)) : ∀ args m r m', closedH (.bool b) args m = some (r, m') → FnOk E.P (.fn f) args m r m' := by
  intro args m r m' e
  cases args with
  | cons _ _ => cases e
  | nil =>
    simp only [closedH, Option.some.injEq, Prod.mk.injEq] at e
    obtain ⟨rfl, rfl⟩ := e
    refine ⟨Nat.le_refl _, fun p w cargs hm _ _ hv => .inl ⟨fn, hfn, hb, hn, ?_⟩⟩
    have hc : cargs = [] := by cases cargs with | nil => rfl | cons _ _ => simp [VRs] at hv
    subst hc
    have hG : GP E.P ≤ w.heap.size := by
      cases hz : GP E.P with
      | zero => exact Nat.zero_le _
      | succ n =>
        obtain ⟨k, hk⟩ := hm.glob n (by show n < GP E.P; omega)
        exact hm.bnd n _ hk
    have hfree : Free (noPhi (GP E.P)) (noM (GP E.P)).next m1.next := by
      intro x h1 h2
      simp only [noM] at h1
      simp only [noPhi]; rw [if_neg (by omega)]
    refine (fnOk_calls (run_sound hE (.fn f) _ _ _ _ h) hfn hb hn (noM_MR hG) (by simp [noM]) hfree (cargs := []) (by simp [VRs])).mono ?_
    rintro e w' ⟨cv, p', rfl, h1, h2⟩
    have keep : ∀ k, k < w.heap.size → w'.heap[k]? = w.heap[k]? := fun k hk => h2.keepC k hk fun b ci h3 => by rw [noM_get] at h3; cases h3
    simp only [VR] at h1
    refine ⟨cv, p, rfl, by simp only [VR]; exact h1, ?_⟩
    exact {
      le := fun _ _ h => h
      out := fun _ _ => rfl
      next := Nat.le_refl _
      rel := {
        has := fun b v ci h3 h4 => by rw [keep _ (hm.bnd b ci h4)]; exact hm.has b v ci h3 h4
        inj := hm.inj
        bnd := fun b ci h4 => Nat.lt_of_lt_of_le (hm.bnd b ci h4) h2.size
        glob := hm.glob }
      keepA := fun _ _ _ => rfl
      dead := fun _ _ h => h
      keepC := fun c hc _ => keep c hc
      fresh := fun b ci h3 h4 => absurd h4 (by omega)
      ro := fun b cs ci h3 h4 => ⟨h3, keep _ (hm.bnd b ci h4)⟩
      size := h2.size
      os := h2.os
      output := h2.output
      tape := h2.tape }
end Go.Abs
end
section
namespace Go.Abs
open Go
def kindsB (P : Program) (fs : Array Field) (ks : List IntKind) : Bool :=
  (List.range ks.length).all fun o => fs.toList.any fun g => g.offset == o && ((match P.underlying g.type with | some (.int k) => decide (ks[o]? = some k) | _ => false) && P.cellsOf g.type == 1)
theorem kinds_of {P : Program} {fs : Array Field} {ks : List IntKind} (h : kindsB P fs ks = true) {o : Nat} (ho : o < ks.length) : ∃ g ∈ fs.toList, g.offset = o ∧ P.underlying g.type = some (.int ks[o]) ∧ P.cellsOf g.type = 1 := by
  unfold kindsB at h
  have h1 := List.all_eq_true.1 h o (List.mem_range.2 ho)
  obtain ⟨g, hg, h2⟩ := List.any_eq_true.1 h1
  simp only [Bool.and_eq_true, beq_iff_eq] at h2
  obtain ⟨h3, h4, h5⟩ := h2
  refine ⟨g, hg, h3, ?_, h5⟩
  split at h4
  · rename_i k e
    have h6 := of_decide_eq_true h4
    rw [List.getElem?_eq_getElem ho] at h6
    rw [e, ← Option.some.inj h6]
  · cases h4
theorem arg_kinds {P : Program} {W : World} {H : Type} {enc : TypeId × Value → H} {t : TypeId} {v : Value} {base : Nat} {fs : Array Field} {ks : List IntKind} {p : List MemPlace} {d : DataW H} (ht : P.underlying t = some (.struct fs)) (hb : kindsB P fs ks = true) (hn : P.cellsOf t = ks.length)
    (h : Value.okWide P W .any base t v) (hr : DataW.Trod enc P W 0 (fun _ => true) true t v d p) : ∃ ns : List Int, ns.length = ks.length ∧ absV W v = .agg (List.zipWith AV.int ks ns) := by
  unfold Value.okWide at h
  simp only [ht] at h
  obtain ⟨cs, rfl, hsz, _⟩ := h
  obtain ⟨fuel, hr⟩ := hr
  obtain ⟨m', hl, hel⟩ := trod_struct ht hr
  simp only [Value.cells] at hl hel
  have h1 : ∀ o (ho : o < ks.length), ∃ n : Int, cs.toList[o]? = some (.int ks[o] n) := fun o ho => by
    obtain ⟨g, hg, rfl, g2, g3⟩ := kinds_of hb ho
    obtain ⟨y, hy⟩ := hel g hg
    rw [g3, List.drop_eq_getElem_cons (show g.offset < cs.toList.length by omega), List.take_succ_cons, List.take_zero] at hy
    obtain ⟨n, e, _⟩ := trod_int g2 hy
    exact ⟨n, by rw [List.getElem?_eq_getElem (by omega), e]⟩
  have h2 : ∀ o, o < ks.length → ∃ n : Int, ∀ ho : o < ks.length, cs.toList[o]? = some (.int ks[o] n) := fun o ho => by
    obtain ⟨n, e⟩ := h1 o ho
    exact ⟨n, fun _ => e⟩
  obtain ⟨g, hg⟩ := Go.Deep.choose_lt h2
  refine ⟨(List.range ks.length).map g, by simp, ?_⟩
  show AV.agg (cs.toList.map (absP W)) = _
  congr 1
  apply List.ext_getElem?
  intro o
  rw [List.getElem?_map, List.getElem?_zipWith, List.getElem?_map]
  by_cases ho : o < ks.length
  · rw [hg o ho ho, List.getElem?_eq_getElem ho, List.getElem?_range ho]; rfl
  · rw [List.getElem?_eq_none (by omega), List.getElem?_eq_none (by omega)]; rfl
end Go.Abs
end
section
namespace Go.Proofs.YtolmealocdgdhaaGreat
open Go Go.Abs
set_option maxRecDepth 20000
set_option maxHeartbeats 400000
noncomputable abbrev HG : FuncId → Option (List AV → Mem → R) := hookAt 33 (closedH (.bool true)) HF
noncomputable abbrev EG : Env := Ea HG
theorem EG_ok : EnvOk EG := EF_ok.hookN 33 (fun args m r m' h => by
  obtain ⟨m1, hk⟩ := known_runs33
  exact closed_ok EF_ok Tryz.func33 (by kernel_rfl) (by decide +kernel) hk args m r m' h)
theorem HG_free (f : Nat) (h3 : f ≠ 33) (hf : f ∉ hooksF) : HG f = none := (hookAt_other h3 _ _).trans (HF_free f hf)
theorem HG_33 : HG 33 = some (closedH (.bool true)) := hookAt_same _ _ _
theorem be4 (x y : Bool) : binA Tryz.prog .eql 4 (.bool x) (.bool y) = some (.bool (x == y)) := by kernel_rfl
theorem known33 (m : Mem) : run (Ea HG) (.fn 33) [] m = some (.bool true, m) := by rw [run_hook HG_33]; rfl
theorem ldB {m : Mem} {b : Nat} (y0 y1 y2 y3 y4 y5 y6 y7 y8 y9 y10 y11 y12 : Int) (h : m.get b = some (.cells (cl y0 y1 y2 y3 y4 y5 y6 y7 y8 y9 y10 y11 y12) false)) : ldN m (.ptr (some ⟨b, 0⟩)) 13 = some (.agg (cl y0 y1 y2 y3 y4 y5 y6 y7 y8 y9 y10 y11 y12)) := by simp [ldN, ldCells, h]
theorem g8_is (y0 y1 y2 y3 y4 y5 y6 y7 y8 y9 y10 y11 y12 : Int) (b : Nat) (M : Mem) (hb : M.get b = some (.cells (cl y0 y1 y2 y3 y4 y5 y6 y7 y8 y9 y10 y11 y12) false)) : ∃ M', (Da HG).gor 32768 [.ptr (some ⟨b, 0⟩)] M = some (.bool true, M') := by
  obtain ⟨r, hr⟩ := may_is (H := HG) (HG_free 48 (by decide) (by decide)) (HG_free 92 (by decide) (by decide)) y0 y1 y2 y3 y4 y5 y6 y7 y8 y9 y10 y11 y12
  obtain ⟨m1, e1, f1⟩ := bound34 (HG_free 34 (by decide) (by decide)) y0 y1 y2 y3 y4 y5 y6 y7 y8 y9 y10 y11 y12 r hr M
  have b1 := f1.get hb (by simp)
  obtain ⟨m2, e2, f2⟩ := bound37 (HG_free 37 (by decide) (by decide)) y0 y1 y2 y3 y4 y5 y6 y7 y8 y9 y10 y11 y12 r hr m1
  have b2 := f2.get b1 (by simp)
  obtain ⟨m3, e3, f3⟩ := quiet35 (HG_free 35 (by decide) (by decide)) y0 y1 y2 y3 y4 y5 y6 y7 y8 y9 y10 y11 y12 r hr m2
  have b3 := f3.get b2 (by simp)
  obtain ⟨m4, e4, f4⟩ := quiet38 (HG_free 38 (by decide) (by decide)) y0 y1 y2 y3 y4 y5 y6 y7 y8 y9 y10 y11 y12 r hr m3
  refine ⟨m4, ?_⟩
  refine (tr_go (U.t8.enA rfl Tryz.func8 rfl rfl) (by kernel_rfl) 32768 _ rfl _ M (by exact nofun)).trans ?_
  simp only [realO, interp_pu, interp_ifv, interp_ret, interp_rm, interp_call, interp_memo, interp_chk', q1, Option.bind_some, ld44, ldB y0 y1 y2 y3 y4 y5 y6 y7 y8 y9 y10 y11 y12 hb, ldB y0 y1 y2 y3 y4 y5 y6 y7 y8 y9 y10 y11 y12 b1, ldB y0 y1 y2 y3 y4 y5 y6 y7 y8 y9 y10 y11 y12 b2, ldB y0 y1 y2 y3 y4 y5 y6 y7 y8 y9 y10 y11 y12 b3, Da_call, known33, e1, e2, e3, e4, bin_eql, be4, decide_true, ifV, beq_self_eq_true]
theorem law8 (y0 y1 y2 y3 y4 y5 y6 y7 y8 y9 y10 y11 y12 z0 z1 z2 z3 z4 z5 z6 z7 z8 z9 z10 z11 z12 : Int) (how : Int) (m : Mem) : ∃ m', run EG (.fn 8) [.agg (cl y0 y1 y2 y3 y4 y5 y6 y7 y8 y9 y10 y11 y12), .agg (rw13 z0 z1 z2 z3 z4 z5 z6 z7 z8 z9 z10 z11 z12), .int .i64 how] m = some (.bool true, m') := by
  rw [show run EG (.fn 8) [.agg (cl y0 y1 y2 y3 y4 y5 y6 y7 y8 y9 y10 y11 y12), .agg (rw13 z0 z1 z2 z3 z4 z5 z6 z7 z8 z9 z10 z11 z12), .int .i64 how] m = _ from tr_is (U.t8.enA rfl Tryz.func8 rfl rfl) (by kernel_rfl) (by kernel_rfl) (HG_free 8 (by decide) (by decide)) _ m (by exact nofun)]
  show ∃ m', interp (Da HG) ((U.t8.x (OX Tryz.prog U.B)).fn _) m = _
  simp only [U.t8]
  simp only [realO, interp_al, interp_pu, interp_rm, interp_call, boxA_agg, boxA_raw, q1, Option.bind_some, ld73, ldN13, lay_next', if_true, if_false, Da_call, interp_cond, binA, intA, Int.reduceEq, Int.ofNat_eq_natCast, Int.cast_ofNat_Int]
  have hb : ((m.lay (.cells (cl y0 y1 y2 y3 y4 y5 y6 y7 y8 y9 y10 y11 y12) false)).lay (.cells (rw13 z0 z1 z2 z3 z4 z5 z6 z7 z8 z9 z10 z11 z12) false)).get m.next = some (.cells (cl y0 y1 y2 y3 y4 y5 y6 y7 y8 y9 y10 y11 y12) false) := by simp [Mem.get_lay, Mem.next_lay]
  cases how.tmod 3 == 0 with
  | true =>
    obtain ⟨w0, w1, w2, w3, w4, w5, w6, w7, w8, w9, w10, w11, w12, m1, e, f⟩ := config36 (H := HG) (HG_free 36 (by decide) (by decide)) (HG_free 13 (by decide) (by decide)) z0 z1 z2 z3 z4 z5 z6 z7 z8 z9 z10 z11 z12 ((m.lay (.cells (cl y0 y1 y2 y3 y4 y5 y6 y7 y8 y9 y10 y11 y12) false)).lay (.cells (rw13 z0 z1 z2 z3 z4 z5 z6 z7 z8 z9 z10 z11 z12) false))
    have b1 := f.get hb (by simp)
    simp only [condA, interp_st, interp_go, Option.bind_some, e]
    rw [stV_box _ _ _ _ _ _ _ _ _ _ _ _ _ b1]
    exact g8_is w0 w1 w2 w3 w4 w5 w6 w7 w8 w9 w10 w11 w12 m.next _ (put_self b1)
  | false =>
    cases how.tmod 3 == 1 with
    | true =>
      obtain ⟨w0, w1, w2, w3, w4, w5, w6, w7, w8, w9, w10, w11, w12, m1, e, f⟩ := config26 (H := HG) (HG_free 26 (by decide) (by decide)) (HG_free 13 (by decide) (by decide)) (HG_free 36 (by decide) (by decide)) z0 z1 z2 z3 z4 z5 z6 z7 z8 z9 z10 z11 z12 ((m.lay (.cells (cl y0 y1 y2 y3 y4 y5 y6 y7 y8 y9 y10 y11 y12) false)).lay (.cells (rw13 z0 z1 z2 z3 z4 z5 z6 z7 z8 z9 z10 z11 z12) false))
      have b1 := f.get hb (by simp)
      simp only [condA, interp_st, interp_go, Option.bind_some, e]
      rw [stV_box _ _ _ _ _ _ _ _ _ _ _ _ _ b1]
      exact g8_is w0 w1 w2 w3 w4 w5 w6 w7 w8 w9 w10 w11 w12 m.next _ (put_self b1)
    | false =>
      simp only [condA, interp_go]
      exact g8_is y0 y1 y2 y3 y4 y5 y6 y7 y8 y9 y10 y11 y12 m.next _ hb
end Go.Proofs.YtolmealocdgdhaaGreat
end
