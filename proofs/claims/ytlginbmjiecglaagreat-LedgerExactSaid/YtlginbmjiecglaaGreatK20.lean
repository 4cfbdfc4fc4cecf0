/- Texts of one claim, put together. -/
import Derived.Test.YtlginbmjiecglaaGreatK19
section
namespace Go.Abs
open Go
noncomputable def Ry (P : Program) (E : Env) (b : Nat) : Do :=
  ⟨run E, fun k _ m => fin P (.rd b) (Nat.casesOn (motive := fun _ => Option Jmp) k none fun k => Nat.casesOn (motive := fun _ => Option Jmp) k (some .ret) fun id => some (.exit id)) [] m, fun _ _ _ _ => none⟩
theorem round_of {E : Env} {f i b : Nat} {args t : List AV} {m : Mem} {st : LoopState} {pe : Option Jmp} (hm : m.get b = some (.loop { loopOf E f i t with state := st, pending := pe })) (hl : args.length = (loopOf E f i t).params.length) {n : Nat} {r : AV × Mem}
    (h : goF E (run E) (.rd b) n [.code (loopOf E f i t).assign, .beginRound, .code (loopOf E f i t).body] (bindP (loopOf E f i t).params args t) m = some r) : run E (.yl b) args m = some r := by
  have ht : (loopOf E f i t).tmps = t := by unfold loopOf; split <;> rfl
  rw [run_round, roundK, hm]
  simp only
  rw [if_pos hl, ht]
  exact Le.goF (fun _ _ _ => Le.refl _) _ _ _ _ _ _ h
theorem loopOf_t (E : Env) (f i : Nat) (t : List AV) : loopOf E f i t = { loopOf E f i [] with tmps := t } := by unfold loopOf; split <;> rfl
theorem loopOf_B {E E' : Env} (h : E.B = E'.B) {f i : Nat} {t : List AV} : loopOf E f i t = loopOf E' f i t := by unfold loopOf codeOf; rw [h]
end Go.Abs
end
section
namespace Go.Proofs.YtlginbmjiecglaaGreat.T
open Go Go.Abs Go.Proofs.YtlginbmjiecglaaGreat
set_option maxRecDepth 10000
variable {H : FuncId → Option (List AV → Mem → R)}
noncomputable def y16_0 (b : Nat) : List AV → CM := apS fun _ => apS fun u1 => apS fun _ => apS fun _ => apS fun t3 => apS fun _ => apS fun _ => apS fun _ => apS fun _ => apS fun _ => apS fun _ => apS fun _ => ap0 <|
 CM.al (some (.cells [(.str []), (.int .i64 0), (.int .i64 0), (.int .u64 0)] false, pB)) fun x0 =>
 CM.st (fun m => stV m x0 u1 4) <|
 CM.st (beginA (.rd b)) <|
 CM.pu (p1 (fun a => fieldAddrA Tryz.prog 49 a 0) t3) fun x2 =>
 CM.rm (q1 (loadA Tryz.prog 45) x2 ) fun x3 =>
 CM.rm (q1 (loadA Tryz.prog 64) x0 ) fun x4 =>
 CM.al (bsA 4 1 [(.str []), (.int .i64 0), (.int .i64 0), (.int .u64 0)] [(0, x4)]) fun x5 =>
 CM.ef (apE 4 40 x3 x5) fun x6 =>
 CM.pu (p1 (fun a => fieldAddrA Tryz.prog 49 a 0) t3) fun x7 =>
 CM.st (fun m => stV m x7 x6 1) <|
 CM.go 0 []
theorem y16_0_ok (b : Nat) (u0 : AV) (u1 : AV) (t0 : AV) (t2 : AV) (t3 : AV) (t5 : AV) (t7 : AV) (t9 : AV) (t19 : AV) (t21 : AV) (t34 : AV) (t47 : AV) (m : Mem) : goF (EH H) (run (EH H)) (.rd b) 400 [.code (loopOf (EH H) 16 0 []).assign, .beginRound, .code (loopOf (EH H) 16 0 []).body] (bindP (loopOf (EH H) 16 0 []).params [u0, u1] ([t0, .undef, t2, t3, .undef, t5, .undef, t7, .undef, t9, .undef, .undef, .undef, .undef, .undef, .undef, .undef, .undef, .undef, t19, .undef, t21, .undef, .undef, .undef, .undef, .undef, .undef, .undef, .undef, .undef, .undef, .undef, .undef, t34, .undef, .undef, .undef, .undef, .undef, .undef, .undef, .undef, .undef, .undef, .undef, .undef, t47] ++ List.replicate 7 .undef)) m = interp (Ry Tryz.prog (EH H) b) (y16_0 b [u0, u1, t0, t2, t3, t5, t7, t9, t19, t21, t34, t47]) m := by kernel_rfl
noncomputable def y16_1 (b : Nat) : List AV → CM := apS fun _ => apS fun u1 => apS fun _ => apS fun _ => apS fun t3 => apS fun _ => apS fun _ => apS fun _ => apS fun _ => apS fun _ => ap0 <|
 CM.al (some (.cells [(.str []), (.str []), (.int .i64 0), (.int .u64 0), (.int .i64 0), (.int .i64 0), (.int .u64 0), (.int .i64 0), (.int .u64 0)] false, pB)) fun x0 =>
 CM.st (fun m => stV m x0 u1 9) <|
 CM.st (beginA (.rd b)) <|
 CM.pu (p1 (fun a => fieldAddrA Tryz.prog 49 a 1) t3) fun x2 =>
 CM.rm (q1 (loadA Tryz.prog 46) x2 ) fun x3 =>
 CM.rm (q1 (loadA Tryz.prog 54) x0 ) fun x4 =>
 CM.al (bsA 9 1 [(.str []), (.str []), (.int .i64 0), (.int .u64 0), (.int .i64 0), (.int .i64 0), (.int .u64 0), (.int .i64 0), (.int .u64 0)] [(0, x4)]) fun x5 =>
 CM.ef (apE 9 88 x3 x5) fun x6 =>
 CM.pu (p1 (fun a => fieldAddrA Tryz.prog 49 a 1) t3) fun x7 =>
 CM.st (fun m => stV m x7 x6 1) <|
 CM.go 0 []
theorem y16_1_ok (b : Nat) (u0 : AV) (u1 : AV) (t0 : AV) (t2 : AV) (t3 : AV) (t7 : AV) (t9 : AV) (t32 : AV) (t34 : AV) (t47 : AV) (m : Mem) : goF (EH H) (run (EH H)) (.rd b) 400 [.code (loopOf (EH H) 16 1 []).assign, .beginRound, .code (loopOf (EH H) 16 1 []).body] (bindP (loopOf (EH H) 16 1 []).params [u0, u1] ([t0, .undef, t2, t3, .undef, .undef, .undef, t7, .undef, t9, .undef, .undef, .undef, .undef, .undef, .undef, .undef, .undef, .undef, .undef, .undef, .undef, .undef, .undef, .undef, .undef, .undef, .undef, .undef, .undef, .undef, .undef, t32, .undef, t34, .undef, .undef, .undef, .undef, .undef, .undef, .undef, .undef, .undef, .undef, .undef, .undef, t47] ++ List.replicate 7 .undef)) m = interp (Ry Tryz.prog (EH H) b) (y16_1 b [u0, u1, t0, t2, t3, t7, t9, t32, t34, t47]) m := by kernel_rfl
noncomputable def y16_2 (b : Nat) : List AV → CM := apS fun _ => apS fun u1 => apS fun _ => apS fun t3 => apS fun _ => apS fun _ => apS fun _ => ap0 <|
 CM.al (some (.cells [(.int .u64 0), (.str []), (.int .i64 0), (.int .u64 0)] false, pB)) fun x0 =>
 CM.st (fun m => stV m x0 u1 4) <|
 CM.st (beginA (.rd b)) <|
 CM.pu (p1 (fun a => fieldAddrA Tryz.prog 49 a 2) t3) fun x2 =>
 CM.rm (q1 (loadA Tryz.prog 47) x2 ) fun x3 =>
 CM.rm (q1 (loadA Tryz.prog 70) x0 ) fun x4 =>
 CM.al (bsA 4 1 [(.int .u64 0), (.str []), (.int .i64 0), (.int .u64 0)] [(0, x4)]) fun x5 =>
 CM.ef (apE 4 40 x3 x5) fun x6 =>
 CM.pu (p1 (fun a => fieldAddrA Tryz.prog 49 a 2) t3) fun x7 =>
 CM.st (fun m => stV m x7 x6 1) <|
 CM.go 0 []
theorem y16_2_ok (b : Nat) (u0 : AV) (u1 : AV) (t2 : AV) (t3 : AV) (t9 : AV) (t45 : AV) (t47 : AV) (m : Mem) : goF (EH H) (run (EH H)) (.rd b) 400 [.code (loopOf (EH H) 16 2 []).assign, .beginRound, .code (loopOf (EH H) 16 2 []).body] (bindP (loopOf (EH H) 16 2 []).params [u0, u1] ([.undef, .undef, t2, t3, .undef, .undef, .undef, .undef, .undef, t9, .undef, .undef, .undef, .undef, .undef, .undef, .undef, .undef, .undef, .undef, .undef, .undef, .undef, .undef, .undef, .undef, .undef, .undef, .undef, .undef, .undef, .undef, .undef, .undef, .undef, .undef, .undef, .undef, .undef, .undef, .undef, .undef, .undef, .undef, .undef, t45, .undef, t47] ++ List.replicate 7 .undef)) m = interp (Ry Tryz.prog (EH H) b) (y16_2 b [u0, u1, t2, t3, t9, t45, t47]) m := by kernel_rfl
end Go.Proofs.YtlginbmjiecglaaGreat.T
end
section
namespace Go.Proofs.YtlginbmjiecglaaGreat
open Go Go.Abs Go.Proofs.YtlginbmjiecglaaGreat.T
set_option maxRecDepth 4000
variable {H : FuncId → Option (List AV → Mem → R)}
theorem fa49_0 (b o : Nat) : fieldAddrA Tryz.prog 49 (.ptr (some ⟨b, o⟩)) 0 = some (.ptr (some ⟨b, o + 0⟩)) := by kernel_rfl
theorem fa49_2 (b o : Nat) : fieldAddrA Tryz.prog 49 (.ptr (some ⟨b, o⟩)) 2 = some (.ptr (some ⟨b, o + 2⟩)) := by kernel_rfl
theorem y16_0_is {b : Nat} (u0 u1 t0 t2 t3 t5 t7 t9 t19 t21 t34 t47 : AV) {m : Mem} {st : LoopState} {pe : Option Jmp} (hm : m.get b = some (.loop { loopOf (T.EH fun _ => none) 16 0 (([t0, .undef, t2, t3, .undef, t5, .undef, t7, .undef, t9, .undef, .undef, .undef, .undef, .undef, .undef, .undef, .undef, .undef, t19, .undef, t21, .undef, .undef, .undef, .undef, .undef, .undef, .undef, .undef, .undef, .undef, .undef, .undef, t34, .undef, .undef, .undef, .undef, .undef, .undef, .undef, .undef, .undef, .undef, .undef, .undef, t47] ++ List.replicate 7 .undef)) with state := st, pending := pe })) {r : AV × Mem} (h : interp (Ry Tryz.prog (T.EH H) b) (T.y16_0 b [u0, u1, t0, t2, t3, t5, t7, t9, t19, t21, t34, t47]) m = some r) : run (T.EH H) (.yl b) [u0, u1] m = some r := by
  rw [loopOf_B (show (T.EH fun _ => none).B = (T.EH H).B from rfl)] at hm
  refine round_of hm (by rw [loopOf_t]; kernel_rfl) (n := 400) ?_
  rw [loopOf_t]
  exact (T.y16_0_ok b u0 u1 t0 t2 t3 t5 t7 t9 t19 t21 t34 t47 m).trans h
theorem y16_1_is {b : Nat} (u0 u1 t0 t2 t3 t7 t9 t32 t34 t47 : AV) {m : Mem} {st : LoopState} {pe : Option Jmp} (hm : m.get b = some (.loop { loopOf (T.EH fun _ => none) 16 1 (([t0, .undef, t2, t3, .undef, .undef, .undef, t7, .undef, t9, .undef, .undef, .undef, .undef, .undef, .undef, .undef, .undef, .undef, .undef, .undef, .undef, .undef, .undef, .undef, .undef, .undef, .undef, .undef, .undef, .undef, .undef, t32, .undef, t34, .undef, .undef, .undef, .undef, .undef, .undef, .undef, .undef, .undef, .undef, .undef, .undef, t47] ++ List.replicate 7 .undef)) with state := st, pending := pe })) {r : AV × Mem} (h : interp (Ry Tryz.prog (T.EH H) b) (T.y16_1 b [u0, u1, t0, t2, t3, t7, t9, t32, t34, t47]) m = some r) : run (T.EH H) (.yl b) [u0, u1] m = some r := by
  rw [loopOf_B (show (T.EH fun _ => none).B = (T.EH H).B from rfl)] at hm
  refine round_of hm (by rw [loopOf_t]; kernel_rfl) (n := 400) ?_
  rw [loopOf_t]
  exact (T.y16_1_ok b u0 u1 t0 t2 t3 t7 t9 t32 t34 t47 m).trans h
theorem y16_2_is {b : Nat} (u0 u1 t2 t3 t9 t45 t47 : AV) {m : Mem} {st : LoopState} {pe : Option Jmp} (hm : m.get b = some (.loop { loopOf (T.EH fun _ => none) 16 2 (([.undef, .undef, t2, t3, .undef, .undef, .undef, .undef, .undef, t9, .undef, .undef, .undef, .undef, .undef, .undef, .undef, .undef, .undef, .undef, .undef, .undef, .undef, .undef, .undef, .undef, .undef, .undef, .undef, .undef, .undef, .undef, .undef, .undef, .undef, .undef, .undef, .undef, .undef, .undef, .undef, .undef, .undef, .undef, .undef, t45, .undef, t47] ++ List.replicate 7 .undef)) with state := st, pending := pe })) {r : AV × Mem} (h : interp (Ry Tryz.prog (T.EH H) b) (T.y16_2 b [u0, u1, t2, t3, t9, t45, t47]) m = some r) : run (T.EH H) (.yl b) [u0, u1] m = some r := by
  rw [loopOf_B (show (T.EH fun _ => none).B = (T.EH H).B from rfl)] at hm
  refine round_of hm (by rw [loopOf_t]; kernel_rfl) (n := 400) ?_
  rw [loopOf_t]
  exact (T.y16_2_ok b u0 u1 t2 t3 t9 t45 t47 m).trans h
end Go.Proofs.YtlginbmjiecglaaGreat
end
section
namespace Go.Abs
open Go

theorem append_trow {n w : Nat} (hn : 0 < n) {m : Mem} {s : AV} {l : List (List AV)} {rb : Option Nat} (h : TRow n m s l rb) {xb : Nat} {new : List AV} (hx : m.get xb = some (.cells new false)) (hl : new.length = n) (ho : new.all AV.one = true)
    (hb : (l.length + 1) * w ≤ maxBytes) :
    ∃ s' m', appendA n w s (.sl (some ⟨xb, 0⟩) n 1 1 true) m = some (s', m') ∧ TRow n m' s' (l ++ [new]) (some m.next) ∧ m'.next = m.next + 1 ∧ Fr m m' rb.toList := by
  have hsrc : srcA n (.sl (some ⟨xb, 0⟩) n 1 1 true) m = some (1, new) := by
    simp only [srcA, true_or, if_true, ldCells, hx, Nat.one_mul, Nat.zero_add, hl, Nat.le_refl, List.drop_zero, Option.map_some]
    rw [List.take_of_length_le (by omega)]
  have hall : ∀ x ∈ l ++ [new], x.length = n ∧ x.all AV.one = true := by
    intro x hx'
    simp only [List.mem_append, List.mem_singleton] at hx'
    rcases hx' with h1 | rfl
    · exact h.1 x h1
    · exact ⟨hl, ho⟩
  have hlens := h.lens
  have hlen : (l ++ [new]).length = l.length + 1 := by simp
  have hfl := flat_len hlens
  unfold appendA
  rw [hsrc]
  simp only [ho, not_true_eq_false, if_false]
  rcases h.2 with ⟨rfl, rfl, sz, ex, rfl⟩ | ⟨b, rfl, rfl, h3⟩
  · simp only [Nat.one_ne_zero, if_false]
    rw [if_pos (by simpa using hb)]
    exact ⟨_, _, rfl, ⟨hall, .inr ⟨m.next, rfl, by simp, by simp [Mem.get_lay]⟩⟩, rfl, Fr.alloc _ _⟩
  · simp only [true_or, if_true]
    have hld : ldCells m ⟨b, 0⟩ (l.length * n) = some l.flatten := by
      simp only [ldCells, h3]
      rw [if_pos (by omega), List.drop_zero, List.take_of_length_le (by omega)]
    rw [if_neg (by omega), if_pos hb, hld]
    simp only [Bool.false_eq_true, if_false, h3]
    refine ⟨_, _, rfl, ⟨hall, .inr ⟨m.next, rfl, by rw [hlen], ?_⟩⟩, rfl, ((Fr.put m b none).trans (Fr.alloc _ _) (by simp) (by simp))⟩
    simp [Mem.get_lay, List.flatten_append]
theorem clone_trow {n w : Nat} {m : Mem} {s : AV} {l : List (List AV)} {rb : Option Nat} (h : TRow n m s l rb) (hb : l.length * w ≤ maxBytes) :
    ∃ b ex m', appendA n w (.sl (some ⟨m.next, 0⟩) n 0 0 true) s (m.lay (.cells [] false)) = some (.sl (some ⟨b, 0⟩) n l.length l.length ex, m') ∧ m'.get b = some (.cells l.flatten false) ∧ Fr m m' [] ∧ m.next ≤ b ∧ (0 < l.length → ex = false) := by
  have f1 : Fr m (m.lay (.cells [] false)) [] := (Fr.refl m).lay _
  have h' := h.frame f1 (by simp)
  have ones : l.flatten.all AV.one = true := flat_ones fun x hx => (h.1 x hx).2
  have hfl := flat_len h.lens
  have hl0 := lay_self m (.cells [] false)
  have src : srcA n s (m.lay (.cells [] false)) = some (l.length, l.flatten) := by
    rcases h'.2 with ⟨rfl, rfl, sz, ex, rfl⟩ | ⟨b, rfl, rfl, h3⟩
    · rfl
    · simp only [srcA, true_or, if_true, ldCells, h3]
      rw [if_pos (by omega), List.drop_zero, List.take_of_length_le (by omega)]; rfl
  unfold appendA
  rw [src]
  simp only [ones, not_true_eq_false, if_false, true_or, if_true, Nat.zero_add, Nat.zero_mul]
  by_cases h0 : l.length = 0
  · have hl : l = [] := List.length_eq_zero_iff.1 h0
    subst hl
    rw [if_pos (by simp)]
    have hst : stCells (m.lay (.cells [] false)) ⟨m.next, 0 + 0⟩ ([] : List (List AV)).flatten = some (m.lay (.cells [] false)) := by
      simp only [stCells, hl0]
      rw [if_pos (by simp)]
      congr 1
      exact put_lay m _ _
    simp only [Nat.add_zero] at hst
    refine ⟨m.next, true, m.lay (.cells [] false), ?_, hl0, f1, Nat.le_refl _, by simp⟩
    rw [hst]; rfl
  · rw [if_neg (by omega), if_pos hb]
    have hld : ldCells (m.lay (.cells [] false)) ⟨m.next, 0⟩ 0 = some [] := by simp only [ldCells, hl0]; simp
    rw [hld]
    simp only [List.nil_append]
    exact ⟨_, _, _, rfl, lay_self _ _, f1.lay _, by simp, fun _ => rfl⟩
theorem loopOf_ready (E : Env) (f i : Nat) (t : List AV) : loopOf E f i t = { loopOf E f i t with state := .ready, pending := none } := by unfold loopOf; split <;> rfl
theorem bytes_ok {n w : Nat} (h : n ≤ 4096) (hw : w ≤ 100) : n * w ≤ maxBytes := Nat.le_trans (Nat.mul_le_mul h hw) (by decide)
theorem map_flat {κ : Type} (ek : κ → AV) (ks : List κ) : (ks.map fun k => [ek k]).length = ks.length := by simp
end Go.Abs
end
section

end
section
namespace Go.Proofs.YtlginbmjiecglaaGreat
set_option maxRecDepth 4000
open Go Go.Abs
section
variable {M : Mem} {lb bb : Nat} {cs : List AV} {s : AV} {l : List (List AV)} {rb : Option Nat} (t0 t2 t5 t7 t9 t19 t21 t34 t47 : AV)
theorem roundP (k : AV) {v : List AV} (hv : v.length = 4) (ho : v.all AV.one = true)
    (hL : M.get lb = some (.loop { loopOf (T.EH fun _ => none) 16 0 (([t0, .undef, t2, (.ptr (some ⟨bb, 0⟩)), .undef, t5, .undef, t7, .undef, t9, .undef, .undef, .undef, .undef, .undef, .undef, .undef, .undef, .undef, t19, .undef, t21, .undef, .undef, .undef, .undef, .undef, .undef, .undef, .undef, .undef, .undef, .undef, .undef, t34, .undef, .undef, .undef, .undef, .undef, .undef, .undef, .undef, .undef, .undef, .undef, .undef, t47] ++ List.replicate 7 .undef)) with state := .ready, pending := none })) (hB : M.get bb = some (.cells cs false)) (hc : cs.length = 4) (hs : cs[0]? = some s)
    (hr : TRow 4 M s l rb) (hne : lb ≠ bb) (hrb : ∀ b, rb = some b → b ≠ lb ∧ b ≠ bb) (hlen : (l.length + 1) * 40 ≤ maxBytes) :
    ∃ s' M' rb', run E18 (.yl lb) [k, .agg v] M = some (.bool true, M') ∧ M'.get lb = some (.loop { loopOf (T.EH fun _ => none) 16 0 (([t0, .undef, t2, (.ptr (some ⟨bb, 0⟩)), .undef, t5, .undef, t7, .undef, t9, .undef, .undef, .undef, .undef, .undef, .undef, .undef, .undef, .undef, t19, .undef, t21, .undef, .undef, .undef, .undef, .undef, .undef, .undef, .undef, .undef, .undef, .undef, .undef, t34, .undef, .undef, .undef, .undef, .undef, .undef, .undef, .undef, .undef, .undef, .undef, .undef, t47] ++ List.replicate 7 .undef)) with state := .ready, pending := none }) ∧
      M'.get bb = some (.cells (cs.set 0 s') false) ∧ TRow 4 M' s' (l ++ [v]) (some rb') ∧ Fr M M' (lb :: bb :: rb.toList) ∧ M.next ≤ rb' := by
  have lL := Mem.get_lt hL
  have lB := Mem.get_lt hB
  obtain ⟨M1, hM1⟩ : ∃ M1, M1 = M.lay (.cells v false) := ⟨_, rfl⟩
  have n1 : M1.next = M.next + 1 := by rw [hM1]; rfl
  have s0 : stV (M.lay (.cells [.str [], .int .i64 0, .int .i64 0, .int .u64 0] false)) (.ptr (some ⟨M.next, 0⟩)) (.agg v) 4 = some M1 := by rw [st_all (n := 4) (lay_self M _) rfl hv ho, put_lay, hM1]
  have f1 : Fr M M1 [] := by rw [hM1]; exact (Fr.refl M).lay _
  have L1 := f1.get hL (by simp)
  have v1 : M1.get M.next = some (.cells v false) := by rw [hM1]; exact lay_self _ _
  obtain ⟨M2, hM2⟩ : ∃ M2, M2 = M1.put lb (some (.loop { loopOf (T.EH fun _ => none) 16 0 (([t0, .undef, t2, (.ptr (some ⟨bb, 0⟩)), .undef, t5, .undef, t7, .undef, t9, .undef, .undef, .undef, .undef, .undef, .undef, .undef, .undef, .undef, t19, .undef, t21, .undef, .undef, .undef, .undef, .undef, .undef, .undef, .undef, .undef, .undef, .undef, .undef, t34, .undef, .undef, .undef, .undef, .undef, .undef, .undef, .undef, .undef, .undef, .undef, .undef, t47] ++ List.replicate 7 .undef)) with state := .busy, pending := none })) := ⟨_, rfl⟩
  have n2 : M2.next = M.next + 1 := by rw [hM2]; exact n1
  have b2 : beginA (.rd lb) M1 = some M2 := by
    unfold beginA
    simp only [L1, if_true]
    rw [hM2]
  have f12 : Fr M1 M2 [lb] := by rw [hM2]; exact Fr.put _ _ _
  have v2 : M2.get M.next = some (.cells v false) := f12.get v1 (by simp; omega)
  have B2 : M2.get bb = some (.cells cs false) := f12.get (f1.get hB (by simp)) (by simp; exact fun h => hne h.symm)
  have L2 : M2.get lb = some (.loop { loopOf (T.EH fun _ => none) 16 0 (([t0, .undef, t2, (.ptr (some ⟨bb, 0⟩)), .undef, t5, .undef, t7, .undef, t9, .undef, .undef, .undef, .undef, .undef, .undef, .undef, .undef, .undef, t19, .undef, t21, .undef, .undef, .undef, .undef, .undef, .undef, .undef, .undef, .undef, .undef, .undef, .undef, t34, .undef, .undef, .undef, .undef, .undef, .undef, .undef, .undef, .undef, .undef, .undef, .undef, t47] ++ List.replicate 7 .undef)) with state := .busy, pending := none }) := by rw [hM2]; exact put_self L1
  have r2 : TRow 4 M2 s l rb := (hr.frame f1 (by simp)).frame f12 (fun b hb => by simp only [List.mem_singleton]; exact (hrb b hb).1)
  obtain ⟨M3, hM3⟩ : ∃ M3, M3 = M2.lay (.cells v false) := ⟨_, rfl⟩
  have n3 : M3.next = M.next + 1 + 1 := by rw [hM3, Mem.next_lay, n2]
  have f23 : Fr M2 M3 [] := by rw [hM3]; exact (Fr.refl M2).lay _
  have x3 : M3.get (M.next + 1) = some (.cells v false) := by rw [hM3, ← n2]; exact lay_self _ _
  have rlt : ∀ b, rb = some b → b < M.next := fun b hb => by subst hb; exact hr.lt
  obtain ⟨s', M4, a1, a2, a3, a4⟩ := append_trow (w := 40) (by decide) (r2.frame f23 (by simp)) x3 hv ho hlen
  rw [n3] at a2 a3
  have L4 : M4.get lb = some (.loop { loopOf (T.EH fun _ => none) 16 0 (([t0, .undef, t2, (.ptr (some ⟨bb, 0⟩)), .undef, t5, .undef, t7, .undef, t9, .undef, .undef, .undef, .undef, .undef, .undef, .undef, .undef, .undef, t19, .undef, t21, .undef, .undef, .undef, .undef, .undef, .undef, .undef, .undef, .undef, .undef, .undef, .undef, t34, .undef, .undef, .undef, .undef, .undef, .undef, .undef, .undef, .undef, .undef, .undef, .undef, t47] ++ List.replicate 7 .undef)) with state := .busy, pending := none }) := a4.get (f23.get L2 (by simp)) (fun hm => by
    rw [Option.mem_toList] at hm; exact (hrb _ hm).1 rfl)
  have B4 : M4.get bb = some (.cells cs false) := a4.get (f23.get B2 (by simp)) (fun hm => by rw [Option.mem_toList] at hm; exact (hrb _ hm).2 rfl)
  have s1one : s'.one = true := a2.one
  have st4 := stV_at (v := s') (vs := [s']) (o := 0) (n := 1) B4 (cells1 s1one) rfl (by omega)
  have hset : cs.take 0 ++ [s'] ++ cs.drop (0 + 1) = cs.set 0 s' := by
    rw [List.set_eq_take_append_cons_drop, if_pos (by omega)]; simp
  rw [hset] at st4
  obtain ⟨M5, hM5⟩ : ∃ M5, M5 = M4.put bb (some (.cells (cs.set 0 s') false)) := ⟨_, rfl⟩
  rw [← hM5] at st4
  have L5 : M5.get lb = some (.loop { loopOf (T.EH fun _ => none) 16 0 (([t0, .undef, t2, (.ptr (some ⟨bb, 0⟩)), .undef, t5, .undef, t7, .undef, t9, .undef, .undef, .undef, .undef, .undef, .undef, .undef, .undef, .undef, t19, .undef, t21, .undef, .undef, .undef, .undef, .undef, .undef, .undef, .undef, .undef, .undef, .undef, .undef, t34, .undef, .undef, .undef, .undef, .undef, .undef, .undef, .undef, .undef, .undef, .undef, .undef, t47] ++ List.replicate 7 .undef)) with state := .busy, pending := none }) := by rw [hM5, put_ne hne]; exact L4
  obtain ⟨M6, hM6⟩ : ∃ M6, M6 = M5.put lb (some (.loop { loopOf (T.EH fun _ => none) 16 0 (([t0, .undef, t2, (.ptr (some ⟨bb, 0⟩)), .undef, t5, .undef, t7, .undef, t9, .undef, .undef, .undef, .undef, .undef, .undef, .undef, .undef, .undef, t19, .undef, t21, .undef, .undef, .undef, .undef, .undef, .undef, .undef, .undef, .undef, .undef, .undef, .undef, t34, .undef, .undef, .undef, .undef, .undef, .undef, .undef, .undef, .undef, .undef, .undef, .undef, t47] ++ List.replicate 7 .undef)) with state := .ready, pending := none })) := ⟨_, rfl⟩
  have fi : (Ry Tryz.prog (T.EH H18) lb).gor 0 [] M5 = some (.bool true, M6) := by
    show fin Tryz.prog (.rd lb) none [] M5 = _
    unfold fin
    simp only [L5, Option.isNone_none, if_true]
    rw [hM6]
  have f6 : Fr M M6 (lb :: bb :: rb.toList) := by
    have g1 : Fr M M4 (lb :: bb :: rb.toList) := (((f1.any _).step f12 (fun c hc => .inl (by simp at hc; simp [hc]))).step0 f23).step a4 (fun c hc => .inl (by simp [hc]))
    rw [hM6, hM5]
    exact (g1.put' (.inl (by simp))).put' (.inl (by simp))
  refine ⟨s', M6, M.next + 1 + 1, ?_, by rw [hM6]; exact put_self L5, ?_, ?_, f6, by omega⟩
  · have lB2 : ld1 M2 (.ptr (some ⟨bb, 0⟩)) = some s := by rw [ld1_at B2]; exact hs
    have lv2 : ldN M2 (.ptr (some ⟨M.next, 0⟩)) 4 = some (.agg v) := ld_all v2 hv
    refine y16_0_is (H := H18) k (.agg v) t0 t2 (.ptr (some ⟨bb, 0⟩)) t5 t7 t9 t19 t21 t34 t47 hL ?_
    simp only [aps, ips, T.y16_0, Option.bind_some, pB, p1, q1, apE, fa49_0, ld45, ld64, Nat.add_zero, s0, b2, lB2, lv2, bs_agg (n := 4) (zs := [.str [], .int .i64 0, .int .i64 0, .int .u64 0]) ho hv (by rfl), n2, ← hM3, a1, st4, fi]
  · rw [hM6, put_ne (fun h => hne h.symm), hM5]; exact put_self B4
  · refine (a2.frame (m' := M5) (S := [bb]) (by rw [hM5]; exact Fr.put _ _ _) (fun b hb => by cases hb; simp; omega)).frame (m' := M6) (S := [lb]) (by rw [hM6]; exact Fr.put _ _ _) (fun b hb => by cases hb; simp; omega)
theorem tellP_loop {sk sv : AV} {kb vb : Nat} {ks : List (List UInt8)} {vs : List (List AV)} (hks : vs.length = ks.length) (hn : ks.length ≤ 1000) (hne : lb ≠ bb) : ∀ (d i : Nat) (M : Mem) (s : AV) (l : List (List AV)) (rb : Option Nat) (cs : List AV), i + d = ks.length → l.length + d ≤ 4096 →
    TRow 1 M sk (ks.map fun k => [.str k]) (some kb) → TRow 4 M sv vs (some vb) → kb ≠ lb → kb ≠ bb → vb ≠ lb → vb ≠ bb → (∀ b, rb = some b → b ≠ kb ∧ b ≠ vb) →
    M.get lb = some (.loop { loopOf (T.EH fun _ => none) 16 0 (([t0, .undef, t2, (.ptr (some ⟨bb, 0⟩)), .undef, t5, .undef, t7, .undef, t9, .undef, .undef, .undef, .undef, .undef, .undef, .undef, .undef, .undef, t19, .undef, t21, .undef, .undef, .undef, .undef, .undef, .undef, .undef, .undef, .undef, .undef, .undef, .undef, t34, .undef, .undef, .undef, .undef, .undef, .undef, .undef, .undef, .undef, .undef, .undef, .undef, t47] ++ List.replicate 7 .undef)) with state := .ready, pending := none }) → M.get bb = some (.cells cs false) → cs.length = 4 → cs[0]? = some s → TRow 4 M s l rb → (∀ b, rb = some b → b ≠ lb ∧ b ≠ bb) →
    ∃ s' M' rb', D18.gor 278528 [sv, .yld lb, sk, .int .i64 (ks.length : Int), .int .i64 (i : Int)] M = some (.undef, M') ∧ M'.get lb = some (.loop { loopOf (T.EH fun _ => none) 16 0 (([t0, .undef, t2, (.ptr (some ⟨bb, 0⟩)), .undef, t5, .undef, t7, .undef, t9, .undef, .undef, .undef, .undef, .undef, .undef, .undef, .undef, .undef, t19, .undef, t21, .undef, .undef, .undef, .undef, .undef, .undef, .undef, .undef, .undef, .undef, .undef, .undef, t34, .undef, .undef, .undef, .undef, .undef, .undef, .undef, .undef, .undef, .undef, .undef, .undef, t47] ++ List.replicate 7 .undef)) with state := .ready, pending := none }) ∧
      M'.get bb = some (.cells (cs.set 0 s') false) ∧ TRow 4 M' s' (l ++ vs.drop i) rb' ∧ Fr M M' (lb :: bb :: rb.toList) ∧ (∀ b, rb' = some b → rb = some b ∨ M.next ≤ b) := by
  intro d
  induction d with
  | zero =>
    intro i M s l rb cs hi _ _ _ _ _ _ _ _ hL hB hc hs hr _
    have : i = ks.length := by omega
    subst this
    refine ⟨s, M, rb, ?_, hL, ?_, ?_, Fr.refl' _ _, fun b hb => .inl hb⟩
    · simp only [aps, ips, g68_0_is (H := H18), T.g68_0, Option.bind_some, p2, bin_lss, condA, decide_eq_false (show ¬ ((ks.length : Nat) : Int) < (ks.length : Int) by omega)]
    · rw [show cs.set 0 s = cs from set_here hs]; exact hB
    · rw [← hks, List.drop_length, List.append_nil]; exact hr
  | succ d ih =>
    intro i M s l rb cs hi hd hK hV k1 k2 v1 v2 hrk hL hB hc hs hr hrb
    have hlt : i < ks.length := by omega
    have hlv : i < vs.length := by omega
    obtain ⟨kb', e1, e2, e3⟩ := hK.key hlt
    obtain ⟨vb', w1, w2, w3⟩ := hV.val hlv
    have hv := hV.1 _ (List.getElem_mem hlv)
    obtain ⟨s1, M1, rb1, g1, g2, g3, g4, g5, g6⟩ := roundP t0 t2 t5 t7 t9 t19 t21 t34 t47 (.str ks[i]) hv.1 hv.2 hL hB hc hs hr hne hrb (bytes_ok (by omega) (by decide))
    have lK := hK.lt
    have lV := hV.lt
    obtain ⟨s2, M2, rb2, j1, j2, j3, j4, j5, j6⟩ := ih (i + 1) M1 s1 (l ++ [vs[i]]) (some rb1) (cs.set 0 s1) (by omega) (by simp; omega)
      (hK.frame g5 (fun b hb => by cases hb; simp; exact ⟨k1, k2, fun h => (hrk _ h).1 rfl⟩)) (hV.frame g5 (fun b hb => by cases hb; simp; exact ⟨v1, v2, fun h => (hrk _ h).2 rfl⟩)) k1 k2 v1 v2 (fun b hb => by cases hb; omega) g2 g3 (by simpa using hc) (by rw [List.getElem?_set_self (by omega)]) g4
      (fun b hb => by cases hb; have := Mem.get_lt hL; have := Mem.get_lt hB; omega)
    rw [List.set_set] at j3
    rw [List.append_assoc, List.singleton_append, ← List.drop_eq_getElem_cons hlv] at j4
    refine ⟨s2, M2, rb2, ?_, j2, j3, j4, g5.step j5 (fun c hc => ?_), fun b hb => ?_⟩
    · subst e1 w1
      have w2' : ixA 4 ks.length ⟨vb', 0⟩ (i : Int) = some (.ptr (some ⟨vb', i * 4⟩)) := by rw [← hks]; exact w2
      simp only [aps, ips, g68_0_is (H := H18), T.g68_0, Option.bind_some, p2, bin_lss, condA, decide_eq_true (show (i : Int) < (ks.length : Int) by omega)]
      simp only [aps, ips, g68_1_is (H := H18), T.g68_1, D2_call, Option.bind_some, p2, q1, p1, condA, unA, ld9, ld64, ix109, ix45, true_or, if_true, e2, e3, w2, w3, callA, g1, Bool.not_true]
      simp only [aps, ips, g68_2_is (H := H18), T.g68_2, Option.bind_some, p2, bin_add, show (i : Int) + 1 = ((i + 1 : Nat) : Int) by omega, wrap_i64 (n := ((i + 1 : Nat) : Int)) (by omega) (by omega)]
      exact j1
    · simp only [List.mem_cons, Option.mem_toList, Option.some.injEq] at hc ⊢
      rcases hc with rfl | rfl | rfl
      · exact .inl (.inl rfl)
      · exact .inl (.inr (.inl rfl))
      · exact .inr g6
    · rcases j6 b hb with h | h
      · cases h; exact .inr g6
      · exact .inr (Nat.le_trans g5.next h)
theorem keysP {t : Nat} {ks : List (List UInt8)} {vs : List (List AV)} {most : Int} {F : List Nat} (hT : TabAt (.str) 4 M t ks vs most F) (hn : ks.length ≤ 1000) :
    ∃ b ex m', run E18 (.fn 69) [.ptr (some ⟨t, 0⟩)] M = some (.sl (some ⟨b, 0⟩) 1 ks.length ks.length ex, m') ∧ m'.get b = some (.cells (ks.map fun k => [.str k]).flatten false) ∧ Fr M m' [] ∧ M.next ≤ b ∧ (0 < ks.length → ex = false) := by
  obtain ⟨⟨sk, sv, kb, vb, h1, h2, h3, h4, h5, h6, rfl⟩, h7⟩ := hT
  have f1 : Fr M (M.lay (.cells [] false)) [] := (Fr.refl M).lay _
  have a3 : ∀ i : Nat, ld1 (M.lay (.cells [] false)) (.ptr (some ⟨t, i⟩)) = [sk, sv, .int .i64 most][i]? := fun i => ld1_at (f1.get h1 (by simp))
  obtain ⟨b, ex, m', g1, g2, g3, g4, g5⟩ := clone_trow (w := 16) h2 (bytes_ok (by simp; omega) (by decide))
  simp only [List.length_map] at g1 g5
  refine ⟨b, ex, m', ?_, g2, g3, g4, g5⟩
  simp only [ge, aps, ips, f69_is (H := H18) rfl, T.f69, Option.bind_some, sB, p1, q1, apE, nnA, fa111_0, ld109, Nat.add_zero, a3, g1]
theorem valsP {t : Nat} {ks : List (List UInt8)} {vs : List (List AV)} {most : Int} {F : List Nat} (hT : TabAt (.str) 4 M t ks vs most F) (hn : ks.length ≤ 1000) :
    ∃ b ex m', run E18 (.fn 70) [.ptr (some ⟨t, 0⟩)] M = some (.sl (some ⟨b, 0⟩) 4 vs.length vs.length ex, m') ∧ m'.get b = some (.cells vs.flatten false) ∧ Fr M m' [] ∧ M.next ≤ b ∧ (0 < vs.length → ex = false) := by
  obtain ⟨⟨sk, sv, kb, vb, h1, h2, h3, h4, h5, h6, rfl⟩, h7⟩ := hT
  have f1 : Fr M (M.lay (.cells [] false)) [] := (Fr.refl M).lay _
  have a3 : ∀ i : Nat, ld1 (M.lay (.cells [] false)) (.ptr (some ⟨t, i⟩)) = [sk, sv, .int .i64 most][i]? := fun i => ld1_at (f1.get h1 (by simp))
  obtain ⟨b, ex, m', g1, g2, g3, g4, g5⟩ := clone_trow (w := 40) h3 (bytes_ok (by omega) (by decide))
  refine ⟨b, ex, m', ?_, g2, g3, g4, g5⟩
  simp only [ge, aps, ips, f70_is (H := H18) rfl, T.f70, Option.bind_some, sB, p1, q1, apE, nnA, fa111_1, ld45, Nat.zero_add, a3, g1]
theorem rngP {t fb : Nat} {ks : List (List UInt8)} {vs : List (List AV)} {most : Int} {F : List Nat} (hT : TabAt (.str) 4 M t ks vs most F) (hn : ks.length ≤ 1000)
    (hfb : M.get fb = some (.cells [.ptr (some ⟨t, 0⟩)] false)) (hB : M.get bb = some (.cells cs false)) (hc : cs.length = 4) (hs : cs[0]? = some s) (hr : TRow 4 M s [] none) (go : Option Jmp → Mem → R) :
    ∃ s' M' rb', rangeK (run E18) (.fn (rsOf (T.EH fun _ => none) 16)) (.fn (.func 67) [] [.ptr (some ⟨fb, 0⟩)]) (loopOf (T.EH fun _ => none) 16 0 (([t0, .undef, t2, (.ptr (some ⟨bb, 0⟩)), .undef, t5, .undef, t7, .undef, t9, .undef, .undef, .undef, .undef, .undef, .undef, .undef, .undef, .undef, t19, .undef, t21, .undef, .undef, .undef, .undef, .undef, .undef, .undef, .undef, .undef, .undef, .undef, .undef, t34, .undef, .undef, .undef, .undef, .undef, .undef, .undef, .undef, .undef, .undef, .undef, .undef, t47] ++ List.replicate 7 .undef))) M go = go none M' ∧
      M'.get bb = some (.cells (cs.set 0 s') false) ∧ TRow 4 M' s' vs rb' ∧ Fr M M' [bb] ∧ (∀ b, rb' = some b → M.next ≤ b) := by
  have lB := Mem.get_lt hB
  have lT := hT.lt
  obtain ⟨M1, hM1⟩ : ∃ M1, M1 = M.lay (.loop (loopOf (T.EH fun _ => none) 16 0 (([t0, .undef, t2, (.ptr (some ⟨bb, 0⟩)), .undef, t5, .undef, t7, .undef, t9, .undef, .undef, .undef, .undef, .undef, .undef, .undef, .undef, .undef, t19, .undef, t21, .undef, .undef, .undef, .undef, .undef, .undef, .undef, .undef, .undef, .undef, .undef, .undef, t34, .undef, .undef, .undef, .undef, .undef, .undef, .undef, .undef, .undef, .undef, .undef, .undef, t47] ++ List.replicate 7 .undef)))) := ⟨_, rfl⟩
  have f1 : Fr M M1 [] := by rw [hM1]; exact (Fr.refl M).lay _
  have n1 : M1.next = M.next + 1 := by rw [hM1]; rfl
  have L1 : M1.get M.next = some (.loop { loopOf (T.EH fun _ => none) 16 0 (([t0, .undef, t2, (.ptr (some ⟨bb, 0⟩)), .undef, t5, .undef, t7, .undef, t9, .undef, .undef, .undef, .undef, .undef, .undef, .undef, .undef, .undef, t19, .undef, t21, .undef, .undef, .undef, .undef, .undef, .undef, .undef, .undef, .undef, .undef, .undef, .undef, t34, .undef, .undef, .undef, .undef, .undef, .undef, .undef, .undef, .undef, .undef, .undef, .undef, t47] ++ List.replicate 7 .undef)) with state := .ready, pending := none }) := by rw [← loopOf_ready, hM1]; exact lay_self _ _
  obtain ⟨kb, ek, M2, k1, k2, k3, k4, k5⟩ := keysP (hT.frame f1 (by simp)) hn
  obtain ⟨vb, ev, M3, v1, v2, v3, v4, v5⟩ := valsP ((hT.frame f1 (by simp)).frame k3 (by simp)) hn
  have d1 : ld1 M1 (.ptr (some ⟨fb, 0⟩)) = some (.ptr (some ⟨t, 0⟩)) := by rw [ld1_at (f1.get hfb (by simp))]; rfl
  have d2 : ld1 M2 (.ptr (some ⟨fb, 0⟩)) = some (.ptr (some ⟨t, 0⟩)) := by rw [ld1_at (k3.get (f1.get hfb (by simp)) (by simp))]; rfl
  have f3 : Fr M1 M3 [] := k3.step0 v3
  have L3 := f3.get L1 (by simp)
  have B3 := f3.get (f1.get hB (by simp)) (by simp)
  have r3 := (hr.frame f1 (by simp)).frame f3 (by simp)
  have n2 := k3.next
  have fin : ∃ s' M' rb', D18.gor 278528 [.sl (some ⟨vb, 0⟩) 4 vs.length vs.length ev, .yld M.next, .sl (some ⟨kb, 0⟩) 1 ks.length ks.length ek, .int .i64 (ks.length : Int), .int .i64 ((0 : Nat) : Int)] M3 = some (.undef, M') ∧ M'.get M.next = some (.loop { loopOf (T.EH fun _ => none) 16 0 (([t0, .undef, t2, (.ptr (some ⟨bb, 0⟩)), .undef, t5, .undef, t7, .undef, t9, .undef, .undef, .undef, .undef, .undef, .undef, .undef, .undef, .undef, t19, .undef, t21, .undef, .undef, .undef, .undef, .undef, .undef, .undef, .undef, .undef, .undef, .undef, .undef, t34, .undef, .undef, .undef, .undef, .undef, .undef, .undef, .undef, .undef, .undef, .undef, .undef, t47] ++ List.replicate 7 .undef)) with state := .ready, pending := none }) ∧
      M'.get bb = some (.cells (cs.set 0 s') false) ∧ TRow 4 M' s' vs rb' ∧ Fr M3 M' [M.next, bb] ∧ (∀ b, rb' = some b → M3.next ≤ b) := by
    have hvl := hT.len
    by_cases h0 : ks.length = 0
    · have e : vs = [] := List.length_eq_zero_iff.1 (by omega)
      subst e
      refine ⟨s, M3, none, ?_, L3, ?_, r3, Fr.refl' _ _, nofun⟩
      · simp only [aps, ips, g68_0_is (H := H18), T.g68_0, Option.bind_some, p2, bin_lss, condA, decide_eq_false (show ¬ ((0 : Nat) : Int) < (ks.length : Int) by omega)]
      · rw [show cs.set 0 s = cs from set_here hs]; exact B3
    · have hk := k5 (by omega)
      have hv := v5 (by omega)
      subst hk hv
      obtain ⟨⟨sk, sv, kb', vb', h1, h2, h3, h4, h5, h6, h7⟩, h8⟩ := hT
      have tK : TRow 1 M3 (.sl (some ⟨kb, 0⟩) 1 ks.length ks.length false) (ks.map fun k => [.str k]) (some kb) := ⟨h2.1, .inr ⟨kb, rfl, by simp, v3.get k2 (by simp)⟩⟩
      have tV : TRow 4 M3 (.sl (some ⟨vb, 0⟩) 4 vs.length vs.length false) vs (some vb) := ⟨h3.1, .inr ⟨vb, rfl, rfl, v2⟩⟩
      obtain ⟨s', M', rb', g1, g2, g3, g4, g5, g6⟩ := tellP_loop t0 t2 t5 t7 t9 t19 t21 t34 t47 h8 hn (show M.next ≠ bb by omega) ks.length 0 M3 s [] none cs (by omega) (by simp; omega) tK tV (by omega) (by omega) (by omega) (by omega) (by simp) L3 B3 hc hs r3 (by simp)
      exact ⟨s', M', rb', g1, g2, g3, by simpa using g4, by simpa using g5, fun b hb => by rcases g6 b hb with h | h; cases h; exact h⟩
  obtain ⟨s', M4, rb', g1, g2, g3, g4, g5, g6⟩ := fin
  refine ⟨s', M4.put M.next none, rb', ?_, ?_, ?_, ?_, ?_⟩
  · have hrun : run E18 (.fn 67) [.yld M.next, .ptr (some ⟨fb, 0⟩)] M1 = some (.undef, M4) := by
      simp only [aps, ips, f67_is (H := H18) rfl, T.f67, D2_call, Option.bind_some, q1, ld56, d1, k1, d2, v1, if_true]
      simp only [aps, ips, f68_is (H := H18) rfl, T.f68, Option.bind_some, p1, len109]
      rw [show (0 : Int) = ((0 : Nat) : Int) from rfl, g1]
      rfl
    unfold rangeK
    simp only [around, if_true, List.nil_append, List.singleton_append]
    rw [← hM1, hrun]
    show rangeEnd M.next M4 go = _
    unfold rangeEnd
    simp only [g2]
    rfl
  · rw [put_ne (by omega)]; exact g3
  · exact g4.frame (Fr.put _ _ _) (fun b hb => by have := g6 b hb; have := f3.next; simp; omega)
  · refine Fr.put' ?_ (.inr (Nat.le_refl _))
    exact ((f1.any _).step0 f3).step g5 (fun c hc => by
      simp only [List.mem_cons, List.not_mem_nil, or_false] at hc
      rcases hc with rfl | rfl
      · exact .inr (Nat.le_refl _)
      · exact .inl (by simp))
  · intro b hb
    have := g6 b hb; have := f3.next; have := f1.next; omega
end
end Go.Proofs.YtlginbmjiecglaaGreat
end
section
namespace Go.Proofs.YtlginbmjiecglaaGreat
set_option maxRecDepth 4000
open Go Go.Abs
section
variable {M : Mem} {lb bb : Nat} {cs : List AV} {s : AV} {l : List (List AV)} {rb : Option Nat} (t0 t2 t7 t9 t32 t34 t47 : AV)
theorem roundQ (k : AV) {v : List AV} (hv : v.length = 9) (ho : v.all AV.one = true)
    (hL : M.get lb = some (.loop { loopOf (T.EH fun _ => none) 16 1 (([t0, .undef, t2, (.ptr (some ⟨bb, 0⟩)), .undef, .undef, .undef, t7, .undef, t9, .undef, .undef, .undef, .undef, .undef, .undef, .undef, .undef, .undef, .undef, .undef, .undef, .undef, .undef, .undef, .undef, .undef, .undef, .undef, .undef, .undef, .undef, t32, .undef, t34, .undef, .undef, .undef, .undef, .undef, .undef, .undef, .undef, .undef, .undef, .undef, .undef, t47] ++ List.replicate 7 .undef)) with state := .ready, pending := none })) (hB : M.get bb = some (.cells cs false)) (hc : cs.length = 4) (hs : cs[1]? = some s)
    (hr : TRow 9 M s l rb) (hne : lb ≠ bb) (hrb : ∀ b, rb = some b → b ≠ lb ∧ b ≠ bb) (hlen : (l.length + 1) * 88 ≤ maxBytes) :
    ∃ s' M' rb', run E18 (.yl lb) [k, .agg v] M = some (.bool true, M') ∧ M'.get lb = some (.loop { loopOf (T.EH fun _ => none) 16 1 (([t0, .undef, t2, (.ptr (some ⟨bb, 0⟩)), .undef, .undef, .undef, t7, .undef, t9, .undef, .undef, .undef, .undef, .undef, .undef, .undef, .undef, .undef, .undef, .undef, .undef, .undef, .undef, .undef, .undef, .undef, .undef, .undef, .undef, .undef, .undef, t32, .undef, t34, .undef, .undef, .undef, .undef, .undef, .undef, .undef, .undef, .undef, .undef, .undef, .undef, t47] ++ List.replicate 7 .undef)) with state := .ready, pending := none }) ∧
      M'.get bb = some (.cells (cs.set 1 s') false) ∧ TRow 9 M' s' (l ++ [v]) (some rb') ∧ Fr M M' (lb :: bb :: rb.toList) ∧ M.next ≤ rb' := by
  have lL := Mem.get_lt hL
  have lB := Mem.get_lt hB
  obtain ⟨M1, hM1⟩ : ∃ M1, M1 = M.lay (.cells v false) := ⟨_, rfl⟩
  have n1 : M1.next = M.next + 1 := by rw [hM1]; rfl
  have s0 : stV (M.lay (.cells [.str [], .str [], .int .i64 0, .int .u64 0, .int .i64 0, .int .i64 0, .int .u64 0, .int .i64 0, .int .u64 0] false)) (.ptr (some ⟨M.next, 0⟩)) (.agg v) 9 = some M1 := by rw [st_all (n := 9) (lay_self M _) rfl hv ho, put_lay, hM1]
  have f1 : Fr M M1 [] := by rw [hM1]; exact (Fr.refl M).lay _
  have L1 := f1.get hL (by simp)
  have v1 : M1.get M.next = some (.cells v false) := by rw [hM1]; exact lay_self _ _
  obtain ⟨M2, hM2⟩ : ∃ M2, M2 = M1.put lb (some (.loop { loopOf (T.EH fun _ => none) 16 1 (([t0, .undef, t2, (.ptr (some ⟨bb, 0⟩)), .undef, .undef, .undef, t7, .undef, t9, .undef, .undef, .undef, .undef, .undef, .undef, .undef, .undef, .undef, .undef, .undef, .undef, .undef, .undef, .undef, .undef, .undef, .undef, .undef, .undef, .undef, .undef, t32, .undef, t34, .undef, .undef, .undef, .undef, .undef, .undef, .undef, .undef, .undef, .undef, .undef, .undef, t47] ++ List.replicate 7 .undef)) with state := .busy, pending := none })) := ⟨_, rfl⟩
  have n2 : M2.next = M.next + 1 := by rw [hM2]; exact n1
  have b2 : beginA (.rd lb) M1 = some M2 := by
    unfold beginA
    simp only [L1, if_true]
    rw [hM2]
  have f12 : Fr M1 M2 [lb] := by rw [hM2]; exact Fr.put _ _ _
  have v2 : M2.get M.next = some (.cells v false) := f12.get v1 (by simp; omega)
  have B2 : M2.get bb = some (.cells cs false) := f12.get (f1.get hB (by simp)) (by simp; exact fun h => hne h.symm)
  have L2 : M2.get lb = some (.loop { loopOf (T.EH fun _ => none) 16 1 (([t0, .undef, t2, (.ptr (some ⟨bb, 0⟩)), .undef, .undef, .undef, t7, .undef, t9, .undef, .undef, .undef, .undef, .undef, .undef, .undef, .undef, .undef, .undef, .undef, .undef, .undef, .undef, .undef, .undef, .undef, .undef, .undef, .undef, .undef, .undef, t32, .undef, t34, .undef, .undef, .undef, .undef, .undef, .undef, .undef, .undef, .undef, .undef, .undef, .undef, t47] ++ List.replicate 7 .undef)) with state := .busy, pending := none }) := by rw [hM2]; exact put_self L1
  have r2 : TRow 9 M2 s l rb := (hr.frame f1 (by simp)).frame f12 (fun b hb => by simp only [List.mem_singleton]; exact (hrb b hb).1)
  obtain ⟨M3, hM3⟩ : ∃ M3, M3 = M2.lay (.cells v false) := ⟨_, rfl⟩
  have n3 : M3.next = M.next + 1 + 1 := by rw [hM3, Mem.next_lay, n2]
  have f23 : Fr M2 M3 [] := by rw [hM3]; exact (Fr.refl M2).lay _
  have x3 : M3.get (M.next + 1) = some (.cells v false) := by rw [hM3, ← n2]; exact lay_self _ _
  have rlt : ∀ b, rb = some b → b < M.next := fun b hb => by subst hb; exact hr.lt
  obtain ⟨s', M4, a1, a2, a3, a4⟩ := append_trow (w := 88) (by decide) (r2.frame f23 (by simp)) x3 hv ho hlen
  rw [n3] at a2 a3
  have L4 : M4.get lb = some (.loop { loopOf (T.EH fun _ => none) 16 1 (([t0, .undef, t2, (.ptr (some ⟨bb, 0⟩)), .undef, .undef, .undef, t7, .undef, t9, .undef, .undef, .undef, .undef, .undef, .undef, .undef, .undef, .undef, .undef, .undef, .undef, .undef, .undef, .undef, .undef, .undef, .undef, .undef, .undef, .undef, .undef, t32, .undef, t34, .undef, .undef, .undef, .undef, .undef, .undef, .undef, .undef, .undef, .undef, .undef, .undef, t47] ++ List.replicate 7 .undef)) with state := .busy, pending := none }) := a4.get (f23.get L2 (by simp)) (fun hm => by
    rw [Option.mem_toList] at hm; exact (hrb _ hm).1 rfl)
  have B4 : M4.get bb = some (.cells cs false) := a4.get (f23.get B2 (by simp)) (fun hm => by rw [Option.mem_toList] at hm; exact (hrb _ hm).2 rfl)
  have s1one : s'.one = true := a2.one
  have st4 := stV_at (v := s') (vs := [s']) (o := 1) (n := 1) B4 (cells1 s1one) rfl (by omega)
  have hset : cs.take 1 ++ [s'] ++ cs.drop (1 + 1) = cs.set 1 s' := by
    rw [List.set_eq_take_append_cons_drop, if_pos (by omega)]; simp
  rw [hset] at st4
  obtain ⟨M5, hM5⟩ : ∃ M5, M5 = M4.put bb (some (.cells (cs.set 1 s') false)) := ⟨_, rfl⟩
  rw [← hM5] at st4
  have L5 : M5.get lb = some (.loop { loopOf (T.EH fun _ => none) 16 1 (([t0, .undef, t2, (.ptr (some ⟨bb, 0⟩)), .undef, .undef, .undef, t7, .undef, t9, .undef, .undef, .undef, .undef, .undef, .undef, .undef, .undef, .undef, .undef, .undef, .undef, .undef, .undef, .undef, .undef, .undef, .undef, .undef, .undef, .undef, .undef, t32, .undef, t34, .undef, .undef, .undef, .undef, .undef, .undef, .undef, .undef, .undef, .undef, .undef, .undef, t47] ++ List.replicate 7 .undef)) with state := .busy, pending := none }) := by rw [hM5, put_ne hne]; exact L4
  obtain ⟨M6, hM6⟩ : ∃ M6, M6 = M5.put lb (some (.loop { loopOf (T.EH fun _ => none) 16 1 (([t0, .undef, t2, (.ptr (some ⟨bb, 0⟩)), .undef, .undef, .undef, t7, .undef, t9, .undef, .undef, .undef, .undef, .undef, .undef, .undef, .undef, .undef, .undef, .undef, .undef, .undef, .undef, .undef, .undef, .undef, .undef, .undef, .undef, .undef, .undef, t32, .undef, t34, .undef, .undef, .undef, .undef, .undef, .undef, .undef, .undef, .undef, .undef, .undef, .undef, t47] ++ List.replicate 7 .undef)) with state := .ready, pending := none })) := ⟨_, rfl⟩
  have fi : (Ry Tryz.prog (T.EH H18) lb).gor 0 [] M5 = some (.bool true, M6) := by
    show fin Tryz.prog (.rd lb) none [] M5 = _
    unfold fin
    simp only [L5, Option.isNone_none, if_true]
    rw [hM6]
  have f6 : Fr M M6 (lb :: bb :: rb.toList) := by
    have g1 : Fr M M4 (lb :: bb :: rb.toList) := (((f1.any _).step f12 (fun c hc => .inl (by simp at hc; simp [hc]))).step0 f23).step a4 (fun c hc => .inl (by simp [hc]))
    rw [hM6, hM5]
    exact (g1.put' (.inl (by simp))).put' (.inl (by simp))
  refine ⟨s', M6, M.next + 1 + 1, ?_, by rw [hM6]; exact put_self L5, ?_, ?_, f6, by omega⟩
  · have lB2 : ld1 M2 (.ptr (some ⟨bb, 1⟩)) = some s := by rw [ld1_at B2]; exact hs
    have lv2 : ldN M2 (.ptr (some ⟨M.next, 0⟩)) 9 = some (.agg v) := ld_all v2 hv
    refine y16_1_is (H := H18) k (.agg v) t0 t2 (.ptr (some ⟨bb, 0⟩)) t7 t9 t32 t34 t47 hL ?_
    simp only [aps, ips, T.y16_1, Option.bind_some, pB, p1, q1, apE, fa49_1, ld46, ld54, Nat.zero_add, s0, b2, lB2, lv2, bs_agg (n := 9) (zs := [.str [], .str [], .int .i64 0, .int .u64 0, .int .i64 0, .int .i64 0, .int .u64 0, .int .i64 0, .int .u64 0]) ho hv (by rfl), n2, ← hM3, a1, st4, fi]
  · rw [hM6, put_ne (fun h => hne h.symm), hM5]; exact put_self B4
  · refine (a2.frame (m' := M5) (S := [bb]) (by rw [hM5]; exact Fr.put _ _ _) (fun b hb => by cases hb; simp; omega)).frame (m' := M6) (S := [lb]) (by rw [hM6]; exact Fr.put _ _ _) (fun b hb => by cases hb; simp; omega)
theorem tellQ_loop {sk sv : AV} {kb vb : Nat} {ks : List (List UInt8)} {vs : List (List AV)} (hks : vs.length = ks.length) (hn : ks.length ≤ 1000) (hne : lb ≠ bb) : ∀ (d i : Nat) (M : Mem) (s : AV) (l : List (List AV)) (rb : Option Nat) (cs : List AV), i + d = ks.length → l.length + d ≤ 4096 →
    TRow 1 M sk (ks.map fun k => [.str k]) (some kb) → TRow 9 M sv vs (some vb) → kb ≠ lb → kb ≠ bb → vb ≠ lb → vb ≠ bb → (∀ b, rb = some b → b ≠ kb ∧ b ≠ vb) →
    M.get lb = some (.loop { loopOf (T.EH fun _ => none) 16 1 (([t0, .undef, t2, (.ptr (some ⟨bb, 0⟩)), .undef, .undef, .undef, t7, .undef, t9, .undef, .undef, .undef, .undef, .undef, .undef, .undef, .undef, .undef, .undef, .undef, .undef, .undef, .undef, .undef, .undef, .undef, .undef, .undef, .undef, .undef, .undef, t32, .undef, t34, .undef, .undef, .undef, .undef, .undef, .undef, .undef, .undef, .undef, .undef, .undef, .undef, t47] ++ List.replicate 7 .undef)) with state := .ready, pending := none }) → M.get bb = some (.cells cs false) → cs.length = 4 → cs[1]? = some s → TRow 9 M s l rb → (∀ b, rb = some b → b ≠ lb ∧ b ≠ bb) →
    ∃ s' M' rb', D18.gor 294912 [sv, .yld lb, sk, .int .i64 (ks.length : Int), .int .i64 (i : Int)] M = some (.undef, M') ∧ M'.get lb = some (.loop { loopOf (T.EH fun _ => none) 16 1 (([t0, .undef, t2, (.ptr (some ⟨bb, 0⟩)), .undef, .undef, .undef, t7, .undef, t9, .undef, .undef, .undef, .undef, .undef, .undef, .undef, .undef, .undef, .undef, .undef, .undef, .undef, .undef, .undef, .undef, .undef, .undef, .undef, .undef, .undef, .undef, t32, .undef, t34, .undef, .undef, .undef, .undef, .undef, .undef, .undef, .undef, .undef, .undef, .undef, .undef, t47] ++ List.replicate 7 .undef)) with state := .ready, pending := none }) ∧
      M'.get bb = some (.cells (cs.set 1 s') false) ∧ TRow 9 M' s' (l ++ vs.drop i) rb' ∧ Fr M M' (lb :: bb :: rb.toList) ∧ (∀ b, rb' = some b → rb = some b ∨ M.next ≤ b) := by
  intro d
  induction d with
  | zero =>
    intro i M s l rb cs hi _ _ _ _ _ _ _ _ hL hB hc hs hr _
    have : i = ks.length := by omega
    subst this
    refine ⟨s, M, rb, ?_, hL, ?_, ?_, Fr.refl' _ _, fun b hb => .inl hb⟩
    · simp only [aps, ips, g72_0_is (H := H18), T.g72_0, Option.bind_some, p2, bin_lss, condA, decide_eq_false (show ¬ ((ks.length : Nat) : Int) < (ks.length : Int) by omega)]
    · rw [show cs.set 1 s = cs from set_here hs]; exact hB
    · rw [← hks, List.drop_length, List.append_nil]; exact hr
  | succ d ih =>
    intro i M s l rb cs hi hd hK hV k1 k2 v1 v2 hrk hL hB hc hs hr hrb
    have hlt : i < ks.length := by omega
    have hlv : i < vs.length := by omega
    obtain ⟨kb', e1, e2, e3⟩ := hK.key hlt
    obtain ⟨vb', w1, w2, w3⟩ := hV.val hlv
    have hv := hV.1 _ (List.getElem_mem hlv)
    obtain ⟨s1, M1, rb1, g1, g2, g3, g4, g5, g6⟩ := roundQ t0 t2 t7 t9 t32 t34 t47 (.str ks[i]) hv.1 hv.2 hL hB hc hs hr hne hrb (bytes_ok (by omega) (by decide))
    have lK := hK.lt
    have lV := hV.lt
    obtain ⟨s2, M2, rb2, j1, j2, j3, j4, j5, j6⟩ := ih (i + 1) M1 s1 (l ++ [vs[i]]) (some rb1) (cs.set 1 s1) (by omega) (by simp; omega)
      (hK.frame g5 (fun b hb => by cases hb; simp; exact ⟨k1, k2, fun h => (hrk _ h).1 rfl⟩)) (hV.frame g5 (fun b hb => by cases hb; simp; exact ⟨v1, v2, fun h => (hrk _ h).2 rfl⟩)) k1 k2 v1 v2 (fun b hb => by cases hb; omega) g2 g3 (by simpa using hc) (by rw [List.getElem?_set_self (by omega)]) g4
      (fun b hb => by cases hb; have := Mem.get_lt hL; have := Mem.get_lt hB; omega)
    rw [List.set_set] at j3
    rw [List.append_assoc, List.singleton_append, ← List.drop_eq_getElem_cons hlv] at j4
    refine ⟨s2, M2, rb2, ?_, j2, j3, j4, g5.step j5 (fun c hc => ?_), fun b hb => ?_⟩
    · subst e1 w1
      have w2' : ixA 9 ks.length ⟨vb', 0⟩ (i : Int) = some (.ptr (some ⟨vb', i * 9⟩)) := by rw [← hks]; exact w2
      simp only [aps, ips, g72_0_is (H := H18), T.g72_0, Option.bind_some, p2, bin_lss, condA, decide_eq_true (show (i : Int) < (ks.length : Int) by omega)]
      simp only [aps, ips, g72_1_is (H := H18), T.g72_1, D2_call, Option.bind_some, p2, q1, p1, condA, unA, ld9, ld54, ix109, ix46, true_or, if_true, e2, e3, w2, w3, callA, g1, Bool.not_true]
      simp only [aps, ips, g72_2_is (H := H18), T.g72_2, Option.bind_some, p2, bin_add, show (i : Int) + 1 = ((i + 1 : Nat) : Int) by omega, wrap_i64 (n := ((i + 1 : Nat) : Int)) (by omega) (by omega)]
      exact j1
    · simp only [List.mem_cons, Option.mem_toList, Option.some.injEq] at hc ⊢
      rcases hc with rfl | rfl | rfl
      · exact .inl (.inl rfl)
      · exact .inl (.inr (.inl rfl))
      · exact .inr g6
    · rcases j6 b hb with h | h
      · cases h; exact .inr g6
      · exact .inr (Nat.le_trans g5.next h)
theorem keysQ {t : Nat} {ks : List (List UInt8)} {vs : List (List AV)} {most : Int} {F : List Nat} (hT : TabAt (.str) 9 M t ks vs most F) (hn : ks.length ≤ 1000) :
    ∃ b ex m', run E18 (.fn 73) [.ptr (some ⟨t, 0⟩)] M = some (.sl (some ⟨b, 0⟩) 1 ks.length ks.length ex, m') ∧ m'.get b = some (.cells (ks.map fun k => [.str k]).flatten false) ∧ Fr M m' [] ∧ M.next ≤ b ∧ (0 < ks.length → ex = false) := by
  obtain ⟨⟨sk, sv, kb, vb, h1, h2, h3, h4, h5, h6, rfl⟩, h7⟩ := hT
  have f1 : Fr M (M.lay (.cells [] false)) [] := (Fr.refl M).lay _
  have a3 : ∀ i : Nat, ld1 (M.lay (.cells [] false)) (.ptr (some ⟨t, i⟩)) = [sk, sv, .int .i64 most][i]? := fun i => ld1_at (f1.get h1 (by simp))
  obtain ⟨b, ex, m', g1, g2, g3, g4, g5⟩ := clone_trow (w := 16) h2 (bytes_ok (by simp; omega) (by decide))
  simp only [List.length_map] at g1 g5
  refine ⟨b, ex, m', ?_, g2, g3, g4, g5⟩
  simp only [ge, aps, ips, f73_is (H := H18) rfl, T.f73, Option.bind_some, sB, p1, q1, apE, nnA, fa113_0, ld109, Nat.add_zero, a3, g1]
theorem valsQ {t : Nat} {ks : List (List UInt8)} {vs : List (List AV)} {most : Int} {F : List Nat} (hT : TabAt (.str) 9 M t ks vs most F) (hn : ks.length ≤ 1000) :
    ∃ b ex m', run E18 (.fn 74) [.ptr (some ⟨t, 0⟩)] M = some (.sl (some ⟨b, 0⟩) 9 vs.length vs.length ex, m') ∧ m'.get b = some (.cells vs.flatten false) ∧ Fr M m' [] ∧ M.next ≤ b ∧ (0 < vs.length → ex = false) := by
  obtain ⟨⟨sk, sv, kb, vb, h1, h2, h3, h4, h5, h6, rfl⟩, h7⟩ := hT
  have f1 : Fr M (M.lay (.cells [] false)) [] := (Fr.refl M).lay _
  have a3 : ∀ i : Nat, ld1 (M.lay (.cells [] false)) (.ptr (some ⟨t, i⟩)) = [sk, sv, .int .i64 most][i]? := fun i => ld1_at (f1.get h1 (by simp))
  obtain ⟨b, ex, m', g1, g2, g3, g4, g5⟩ := clone_trow (w := 88) h3 (bytes_ok (by omega) (by decide))
  refine ⟨b, ex, m', ?_, g2, g3, g4, g5⟩
  simp only [ge, aps, ips, f74_is (H := H18) rfl, T.f74, Option.bind_some, sB, p1, q1, apE, nnA, fa113_1, ld46, Nat.zero_add, a3, g1]
theorem rngQ {t fb : Nat} {ks : List (List UInt8)} {vs : List (List AV)} {most : Int} {F : List Nat} (hT : TabAt (.str) 9 M t ks vs most F) (hn : ks.length ≤ 1000)
    (hfb : M.get fb = some (.cells [.ptr (some ⟨t, 0⟩)] false)) (hB : M.get bb = some (.cells cs false)) (hc : cs.length = 4) (hs : cs[1]? = some s) (hr : TRow 9 M s [] none) (go : Option Jmp → Mem → R) :
    ∃ s' M' rb', rangeK (run E18) (.fn (rsOf (T.EH fun _ => none) 16)) (.fn (.func 71) [] [.ptr (some ⟨fb, 0⟩)]) (loopOf (T.EH fun _ => none) 16 1 (([t0, .undef, t2, (.ptr (some ⟨bb, 0⟩)), .undef, .undef, .undef, t7, .undef, t9, .undef, .undef, .undef, .undef, .undef, .undef, .undef, .undef, .undef, .undef, .undef, .undef, .undef, .undef, .undef, .undef, .undef, .undef, .undef, .undef, .undef, .undef, t32, .undef, t34, .undef, .undef, .undef, .undef, .undef, .undef, .undef, .undef, .undef, .undef, .undef, .undef, t47] ++ List.replicate 7 .undef))) M go = go none M' ∧
      M'.get bb = some (.cells (cs.set 1 s') false) ∧ TRow 9 M' s' vs rb' ∧ Fr M M' [bb] ∧ (∀ b, rb' = some b → M.next ≤ b) := by
  have lB := Mem.get_lt hB
  have lT := hT.lt
  obtain ⟨M1, hM1⟩ : ∃ M1, M1 = M.lay (.loop (loopOf (T.EH fun _ => none) 16 1 (([t0, .undef, t2, (.ptr (some ⟨bb, 0⟩)), .undef, .undef, .undef, t7, .undef, t9, .undef, .undef, .undef, .undef, .undef, .undef, .undef, .undef, .undef, .undef, .undef, .undef, .undef, .undef, .undef, .undef, .undef, .undef, .undef, .undef, .undef, .undef, t32, .undef, t34, .undef, .undef, .undef, .undef, .undef, .undef, .undef, .undef, .undef, .undef, .undef, .undef, t47] ++ List.replicate 7 .undef)))) := ⟨_, rfl⟩
  have f1 : Fr M M1 [] := by rw [hM1]; exact (Fr.refl M).lay _
  have n1 : M1.next = M.next + 1 := by rw [hM1]; rfl
  have L1 : M1.get M.next = some (.loop { loopOf (T.EH fun _ => none) 16 1 (([t0, .undef, t2, (.ptr (some ⟨bb, 0⟩)), .undef, .undef, .undef, t7, .undef, t9, .undef, .undef, .undef, .undef, .undef, .undef, .undef, .undef, .undef, .undef, .undef, .undef, .undef, .undef, .undef, .undef, .undef, .undef, .undef, .undef, .undef, .undef, t32, .undef, t34, .undef, .undef, .undef, .undef, .undef, .undef, .undef, .undef, .undef, .undef, .undef, .undef, t47] ++ List.replicate 7 .undef)) with state := .ready, pending := none }) := by rw [← loopOf_ready, hM1]; exact lay_self _ _
  obtain ⟨kb, ek, M2, k1, k2, k3, k4, k5⟩ := keysQ (hT.frame f1 (by simp)) hn
  obtain ⟨vb, ev, M3, v1, v2, v3, v4, v5⟩ := valsQ ((hT.frame f1 (by simp)).frame k3 (by simp)) hn
  have d1 : ld1 M1 (.ptr (some ⟨fb, 0⟩)) = some (.ptr (some ⟨t, 0⟩)) := by rw [ld1_at (f1.get hfb (by simp))]; rfl
  have d2 : ld1 M2 (.ptr (some ⟨fb, 0⟩)) = some (.ptr (some ⟨t, 0⟩)) := by rw [ld1_at (k3.get (f1.get hfb (by simp)) (by simp))]; rfl
  have f3 : Fr M1 M3 [] := k3.step0 v3
  have L3 := f3.get L1 (by simp)
  have B3 := f3.get (f1.get hB (by simp)) (by simp)
  have r3 := (hr.frame f1 (by simp)).frame f3 (by simp)
  have n2 := k3.next
  have fin : ∃ s' M' rb', D18.gor 294912 [.sl (some ⟨vb, 0⟩) 9 vs.length vs.length ev, .yld M.next, .sl (some ⟨kb, 0⟩) 1 ks.length ks.length ek, .int .i64 (ks.length : Int), .int .i64 ((0 : Nat) : Int)] M3 = some (.undef, M') ∧ M'.get M.next = some (.loop { loopOf (T.EH fun _ => none) 16 1 (([t0, .undef, t2, (.ptr (some ⟨bb, 0⟩)), .undef, .undef, .undef, t7, .undef, t9, .undef, .undef, .undef, .undef, .undef, .undef, .undef, .undef, .undef, .undef, .undef, .undef, .undef, .undef, .undef, .undef, .undef, .undef, .undef, .undef, .undef, .undef, t32, .undef, t34, .undef, .undef, .undef, .undef, .undef, .undef, .undef, .undef, .undef, .undef, .undef, .undef, t47] ++ List.replicate 7 .undef)) with state := .ready, pending := none }) ∧
      M'.get bb = some (.cells (cs.set 1 s') false) ∧ TRow 9 M' s' vs rb' ∧ Fr M3 M' [M.next, bb] ∧ (∀ b, rb' = some b → M3.next ≤ b) := by
    have hvl := hT.len
    by_cases h0 : ks.length = 0
    · have e : vs = [] := List.length_eq_zero_iff.1 (by omega)
      subst e
      refine ⟨s, M3, none, ?_, L3, ?_, r3, Fr.refl' _ _, nofun⟩
      · simp only [aps, ips, g72_0_is (H := H18), T.g72_0, Option.bind_some, p2, bin_lss, condA, decide_eq_false (show ¬ ((0 : Nat) : Int) < (ks.length : Int) by omega)]
      · rw [show cs.set 1 s = cs from set_here hs]; exact B3
    · have hk := k5 (by omega)
      have hv := v5 (by omega)
      subst hk hv
      obtain ⟨⟨sk, sv, kb', vb', h1, h2, h3, h4, h5, h6, h7⟩, h8⟩ := hT
      have tK : TRow 1 M3 (.sl (some ⟨kb, 0⟩) 1 ks.length ks.length false) (ks.map fun k => [.str k]) (some kb) := ⟨h2.1, .inr ⟨kb, rfl, by simp, v3.get k2 (by simp)⟩⟩
      have tV : TRow 9 M3 (.sl (some ⟨vb, 0⟩) 9 vs.length vs.length false) vs (some vb) := ⟨h3.1, .inr ⟨vb, rfl, rfl, v2⟩⟩
      obtain ⟨s', M', rb', g1, g2, g3, g4, g5, g6⟩ := tellQ_loop t0 t2 t7 t9 t32 t34 t47 h8 hn (show M.next ≠ bb by omega) ks.length 0 M3 s [] none cs (by omega) (by simp; omega) tK tV (by omega) (by omega) (by omega) (by omega) (by simp) L3 B3 hc hs r3 (by simp)
      exact ⟨s', M', rb', g1, g2, g3, by simpa using g4, by simpa using g5, fun b hb => by rcases g6 b hb with h | h; cases h; exact h⟩
  obtain ⟨s', M4, rb', g1, g2, g3, g4, g5, g6⟩ := fin
  refine ⟨s', M4.put M.next none, rb', ?_, ?_, ?_, ?_, ?_⟩
  · have hrun : run E18 (.fn 71) [.yld M.next, .ptr (some ⟨fb, 0⟩)] M1 = some (.undef, M4) := by
      simp only [aps, ips, f71_is (H := H18) rfl, T.f71, D2_call, Option.bind_some, q1, ld57, d1, k1, d2, v1, if_true]
      simp only [aps, ips, f72_is (H := H18) rfl, T.f72, Option.bind_some, p1, len109]
      rw [show (0 : Int) = ((0 : Nat) : Int) from rfl, g1]
      rfl
    unfold rangeK
    simp only [around, if_true, List.nil_append, List.singleton_append]
    rw [← hM1, hrun]
    show rangeEnd M.next M4 go = _
    unfold rangeEnd
    simp only [g2]
    rfl
  · rw [put_ne (by omega)]; exact g3
  · exact g4.frame (Fr.put _ _ _) (fun b hb => by have := g6 b hb; have := f3.next; simp; omega)
  · refine Fr.put' ?_ (.inr (Nat.le_refl _))
    exact ((f1.any _).step0 f3).step g5 (fun c hc => by
      simp only [List.mem_cons, List.not_mem_nil, or_false] at hc
      rcases hc with rfl | rfl
      · exact .inr (Nat.le_refl _)
      · exact .inl (by simp))
  · intro b hb
    have := g6 b hb; have := f3.next; have := f1.next; omega
end
end Go.Proofs.YtlginbmjiecglaaGreat
end
section
namespace Go.Proofs.YtlginbmjiecglaaGreat
set_option maxRecDepth 4000
open Go Go.Abs
section
variable {M : Mem} {lb bb : Nat} {cs : List AV} {s : AV} {l : List (List AV)} {rb : Option Nat} (t2 t9 t45 t47 : AV)
theorem roundA (k : AV) {v : List AV} (hv : v.length = 4) (ho : v.all AV.one = true)
    (hL : M.get lb = some (.loop { loopOf (T.EH fun _ => none) 16 2 (([.undef, .undef, t2, (.ptr (some ⟨bb, 0⟩)), .undef, .undef, .undef, .undef, .undef, t9, .undef, .undef, .undef, .undef, .undef, .undef, .undef, .undef, .undef, .undef, .undef, .undef, .undef, .undef, .undef, .undef, .undef, .undef, .undef, .undef, .undef, .undef, .undef, .undef, .undef, .undef, .undef, .undef, .undef, .undef, .undef, .undef, .undef, .undef, .undef, t45, .undef, t47] ++ List.replicate 7 .undef)) with state := .ready, pending := none })) (hB : M.get bb = some (.cells cs false)) (hc : cs.length = 4) (hs : cs[2]? = some s)
    (hr : TRow 4 M s l rb) (hne : lb ≠ bb) (hrb : ∀ b, rb = some b → b ≠ lb ∧ b ≠ bb) (hlen : (l.length + 1) * 40 ≤ maxBytes) :
    ∃ s' M' rb', run E18 (.yl lb) [k, .agg v] M = some (.bool true, M') ∧ M'.get lb = some (.loop { loopOf (T.EH fun _ => none) 16 2 (([.undef, .undef, t2, (.ptr (some ⟨bb, 0⟩)), .undef, .undef, .undef, .undef, .undef, t9, .undef, .undef, .undef, .undef, .undef, .undef, .undef, .undef, .undef, .undef, .undef, .undef, .undef, .undef, .undef, .undef, .undef, .undef, .undef, .undef, .undef, .undef, .undef, .undef, .undef, .undef, .undef, .undef, .undef, .undef, .undef, .undef, .undef, .undef, .undef, t45, .undef, t47] ++ List.replicate 7 .undef)) with state := .ready, pending := none }) ∧
      M'.get bb = some (.cells (cs.set 2 s') false) ∧ TRow 4 M' s' (l ++ [v]) (some rb') ∧ Fr M M' (lb :: bb :: rb.toList) ∧ M.next ≤ rb' := by
  have lL := Mem.get_lt hL
  have lB := Mem.get_lt hB
  obtain ⟨M1, hM1⟩ : ∃ M1, M1 = M.lay (.cells v false) := ⟨_, rfl⟩
  have n1 : M1.next = M.next + 1 := by rw [hM1]; rfl
  have s0 : stV (M.lay (.cells [.int .u64 0, .str [], .int .i64 0, .int .u64 0] false)) (.ptr (some ⟨M.next, 0⟩)) (.agg v) 4 = some M1 := by rw [st_all (n := 4) (lay_self M _) rfl hv ho, put_lay, hM1]
  have f1 : Fr M M1 [] := by rw [hM1]; exact (Fr.refl M).lay _
  have L1 := f1.get hL (by simp)
  have v1 : M1.get M.next = some (.cells v false) := by rw [hM1]; exact lay_self _ _
  obtain ⟨M2, hM2⟩ : ∃ M2, M2 = M1.put lb (some (.loop { loopOf (T.EH fun _ => none) 16 2 (([.undef, .undef, t2, (.ptr (some ⟨bb, 0⟩)), .undef, .undef, .undef, .undef, .undef, t9, .undef, .undef, .undef, .undef, .undef, .undef, .undef, .undef, .undef, .undef, .undef, .undef, .undef, .undef, .undef, .undef, .undef, .undef, .undef, .undef, .undef, .undef, .undef, .undef, .undef, .undef, .undef, .undef, .undef, .undef, .undef, .undef, .undef, .undef, .undef, t45, .undef, t47] ++ List.replicate 7 .undef)) with state := .busy, pending := none })) := ⟨_, rfl⟩
  have n2 : M2.next = M.next + 1 := by rw [hM2]; exact n1
  have b2 : beginA (.rd lb) M1 = some M2 := by
    unfold beginA
    simp only [L1, if_true]
    rw [hM2]
  have f12 : Fr M1 M2 [lb] := by rw [hM2]; exact Fr.put _ _ _
  have v2 : M2.get M.next = some (.cells v false) := f12.get v1 (by simp; omega)
  have B2 : M2.get bb = some (.cells cs false) := f12.get (f1.get hB (by simp)) (by simp; exact fun h => hne h.symm)
  have L2 : M2.get lb = some (.loop { loopOf (T.EH fun _ => none) 16 2 (([.undef, .undef, t2, (.ptr (some ⟨bb, 0⟩)), .undef, .undef, .undef, .undef, .undef, t9, .undef, .undef, .undef, .undef, .undef, .undef, .undef, .undef, .undef, .undef, .undef, .undef, .undef, .undef, .undef, .undef, .undef, .undef, .undef, .undef, .undef, .undef, .undef, .undef, .undef, .undef, .undef, .undef, .undef, .undef, .undef, .undef, .undef, .undef, .undef, t45, .undef, t47] ++ List.replicate 7 .undef)) with state := .busy, pending := none }) := by rw [hM2]; exact put_self L1
  have r2 : TRow 4 M2 s l rb := (hr.frame f1 (by simp)).frame f12 (fun b hb => by simp only [List.mem_singleton]; exact (hrb b hb).1)
  obtain ⟨M3, hM3⟩ : ∃ M3, M3 = M2.lay (.cells v false) := ⟨_, rfl⟩
  have n3 : M3.next = M.next + 1 + 1 := by rw [hM3, Mem.next_lay, n2]
  have f23 : Fr M2 M3 [] := by rw [hM3]; exact (Fr.refl M2).lay _
  have x3 : M3.get (M.next + 1) = some (.cells v false) := by rw [hM3, ← n2]; exact lay_self _ _
  have rlt : ∀ b, rb = some b → b < M.next := fun b hb => by subst hb; exact hr.lt
  obtain ⟨s', M4, a1, a2, a3, a4⟩ := append_trow (w := 40) (by decide) (r2.frame f23 (by simp)) x3 hv ho hlen
  rw [n3] at a2 a3
  have L4 : M4.get lb = some (.loop { loopOf (T.EH fun _ => none) 16 2 (([.undef, .undef, t2, (.ptr (some ⟨bb, 0⟩)), .undef, .undef, .undef, .undef, .undef, t9, .undef, .undef, .undef, .undef, .undef, .undef, .undef, .undef, .undef, .undef, .undef, .undef, .undef, .undef, .undef, .undef, .undef, .undef, .undef, .undef, .undef, .undef, .undef, .undef, .undef, .undef, .undef, .undef, .undef, .undef, .undef, .undef, .undef, .undef, .undef, t45, .undef, t47] ++ List.replicate 7 .undef)) with state := .busy, pending := none }) := a4.get (f23.get L2 (by simp)) (fun hm => by
    rw [Option.mem_toList] at hm; exact (hrb _ hm).1 rfl)
  have B4 : M4.get bb = some (.cells cs false) := a4.get (f23.get B2 (by simp)) (fun hm => by rw [Option.mem_toList] at hm; exact (hrb _ hm).2 rfl)
  have s1one : s'.one = true := a2.one
  have st4 := stV_at (v := s') (vs := [s']) (o := 2) (n := 1) B4 (cells1 s1one) rfl (by omega)
  have hset : cs.take 2 ++ [s'] ++ cs.drop (2 + 1) = cs.set 2 s' := by
    rw [List.set_eq_take_append_cons_drop, if_pos (by omega)]; simp
  rw [hset] at st4
  obtain ⟨M5, hM5⟩ : ∃ M5, M5 = M4.put bb (some (.cells (cs.set 2 s') false)) := ⟨_, rfl⟩
  rw [← hM5] at st4
  have L5 : M5.get lb = some (.loop { loopOf (T.EH fun _ => none) 16 2 (([.undef, .undef, t2, (.ptr (some ⟨bb, 0⟩)), .undef, .undef, .undef, .undef, .undef, t9, .undef, .undef, .undef, .undef, .undef, .undef, .undef, .undef, .undef, .undef, .undef, .undef, .undef, .undef, .undef, .undef, .undef, .undef, .undef, .undef, .undef, .undef, .undef, .undef, .undef, .undef, .undef, .undef, .undef, .undef, .undef, .undef, .undef, .undef, .undef, t45, .undef, t47] ++ List.replicate 7 .undef)) with state := .busy, pending := none }) := by rw [hM5, put_ne hne]; exact L4
  obtain ⟨M6, hM6⟩ : ∃ M6, M6 = M5.put lb (some (.loop { loopOf (T.EH fun _ => none) 16 2 (([.undef, .undef, t2, (.ptr (some ⟨bb, 0⟩)), .undef, .undef, .undef, .undef, .undef, t9, .undef, .undef, .undef, .undef, .undef, .undef, .undef, .undef, .undef, .undef, .undef, .undef, .undef, .undef, .undef, .undef, .undef, .undef, .undef, .undef, .undef, .undef, .undef, .undef, .undef, .undef, .undef, .undef, .undef, .undef, .undef, .undef, .undef, .undef, .undef, t45, .undef, t47] ++ List.replicate 7 .undef)) with state := .ready, pending := none })) := ⟨_, rfl⟩
  have fi : (Ry Tryz.prog (T.EH H18) lb).gor 0 [] M5 = some (.bool true, M6) := by
    show fin Tryz.prog (.rd lb) none [] M5 = _
    unfold fin
    simp only [L5, Option.isNone_none, if_true]
    rw [hM6]
  have f6 : Fr M M6 (lb :: bb :: rb.toList) := by
    have g1 : Fr M M4 (lb :: bb :: rb.toList) := (((f1.any _).step f12 (fun c hc => .inl (by simp at hc; simp [hc]))).step0 f23).step a4 (fun c hc => .inl (by simp [hc]))
    rw [hM6, hM5]
    exact (g1.put' (.inl (by simp))).put' (.inl (by simp))
  refine ⟨s', M6, M.next + 1 + 1, ?_, by rw [hM6]; exact put_self L5, ?_, ?_, f6, by omega⟩
  · have lB2 : ld1 M2 (.ptr (some ⟨bb, 2⟩)) = some s := by rw [ld1_at B2]; exact hs
    have lv2 : ldN M2 (.ptr (some ⟨M.next, 0⟩)) 4 = some (.agg v) := ld_all v2 hv
    refine y16_2_is (H := H18) k (.agg v) t2 (.ptr (some ⟨bb, 0⟩)) t9 t45 t47 hL ?_
    simp only [aps, ips, T.y16_2, Option.bind_some, pB, p1, q1, apE, fa49_2, ld47, ld70, Nat.zero_add, s0, b2, lB2, lv2, bs_agg (n := 4) (zs := [.int .u64 0, .str [], .int .i64 0, .int .u64 0]) ho hv (by rfl), n2, ← hM3, a1, st4, fi]
  · rw [hM6, put_ne (fun h => hne h.symm), hM5]; exact put_self B4
  · refine (a2.frame (m' := M5) (S := [bb]) (by rw [hM5]; exact Fr.put _ _ _) (fun b hb => by cases hb; simp; omega)).frame (m' := M6) (S := [lb]) (by rw [hM6]; exact Fr.put _ _ _) (fun b hb => by cases hb; simp; omega)
theorem tellA_loop {sk sv : AV} {kb vb : Nat} {ks : List Int} {vs : List (List AV)} (hks : vs.length = ks.length) (hn : ks.length ≤ 1000) (hne : lb ≠ bb) : ∀ (d i : Nat) (M : Mem) (s : AV) (l : List (List AV)) (rb : Option Nat) (cs : List AV), i + d = ks.length → l.length + d ≤ 4096 →
    TRow 1 M sk (ks.map fun k => [.int .u64 k]) (some kb) → TRow 4 M sv vs (some vb) → kb ≠ lb → kb ≠ bb → vb ≠ lb → vb ≠ bb → (∀ b, rb = some b → b ≠ kb ∧ b ≠ vb) →
    M.get lb = some (.loop { loopOf (T.EH fun _ => none) 16 2 (([.undef, .undef, t2, (.ptr (some ⟨bb, 0⟩)), .undef, .undef, .undef, .undef, .undef, t9, .undef, .undef, .undef, .undef, .undef, .undef, .undef, .undef, .undef, .undef, .undef, .undef, .undef, .undef, .undef, .undef, .undef, .undef, .undef, .undef, .undef, .undef, .undef, .undef, .undef, .undef, .undef, .undef, .undef, .undef, .undef, .undef, .undef, .undef, .undef, t45, .undef, t47] ++ List.replicate 7 .undef)) with state := .ready, pending := none }) → M.get bb = some (.cells cs false) → cs.length = 4 → cs[2]? = some s → TRow 4 M s l rb → (∀ b, rb = some b → b ≠ lb ∧ b ≠ bb) →
    ∃ s' M' rb', D18.gor 311296 [sv, .yld lb, sk, .int .i64 (ks.length : Int), .int .i64 (i : Int)] M = some (.undef, M') ∧ M'.get lb = some (.loop { loopOf (T.EH fun _ => none) 16 2 (([.undef, .undef, t2, (.ptr (some ⟨bb, 0⟩)), .undef, .undef, .undef, .undef, .undef, t9, .undef, .undef, .undef, .undef, .undef, .undef, .undef, .undef, .undef, .undef, .undef, .undef, .undef, .undef, .undef, .undef, .undef, .undef, .undef, .undef, .undef, .undef, .undef, .undef, .undef, .undef, .undef, .undef, .undef, .undef, .undef, .undef, .undef, .undef, .undef, t45, .undef, t47] ++ List.replicate 7 .undef)) with state := .ready, pending := none }) ∧
      M'.get bb = some (.cells (cs.set 2 s') false) ∧ TRow 4 M' s' (l ++ vs.drop i) rb' ∧ Fr M M' (lb :: bb :: rb.toList) ∧ (∀ b, rb' = some b → rb = some b ∨ M.next ≤ b) := by
  intro d
  induction d with
  | zero =>
    intro i M s l rb cs hi _ _ _ _ _ _ _ _ hL hB hc hs hr _
    have : i = ks.length := by omega
    subst this
    refine ⟨s, M, rb, ?_, hL, ?_, ?_, Fr.refl' _ _, fun b hb => .inl hb⟩
    · simp only [aps, ips, g76_0_is (H := H18), T.g76_0, Option.bind_some, p2, bin_lss, condA, decide_eq_false (show ¬ ((ks.length : Nat) : Int) < (ks.length : Int) by omega)]
    · rw [show cs.set 2 s = cs from set_here hs]; exact hB
    · rw [← hks, List.drop_length, List.append_nil]; exact hr
  | succ d ih =>
    intro i M s l rb cs hi hd hK hV k1 k2 v1 v2 hrk hL hB hc hs hr hrb
    have hlt : i < ks.length := by omega
    have hlv : i < vs.length := by omega
    obtain ⟨kb', e1, e2, e3⟩ := hK.key hlt
    obtain ⟨vb', w1, w2, w3⟩ := hV.val hlv
    have hv := hV.1 _ (List.getElem_mem hlv)
    obtain ⟨s1, M1, rb1, g1, g2, g3, g4, g5, g6⟩ := roundA t2 t9 t45 t47 (.int .u64 ks[i]) hv.1 hv.2 hL hB hc hs hr hne hrb (bytes_ok (by omega) (by decide))
    have lK := hK.lt
    have lV := hV.lt
    obtain ⟨s2, M2, rb2, j1, j2, j3, j4, j5, j6⟩ := ih (i + 1) M1 s1 (l ++ [vs[i]]) (some rb1) (cs.set 2 s1) (by omega) (by simp; omega)
      (hK.frame g5 (fun b hb => by cases hb; simp; exact ⟨k1, k2, fun h => (hrk _ h).1 rfl⟩)) (hV.frame g5 (fun b hb => by cases hb; simp; exact ⟨v1, v2, fun h => (hrk _ h).2 rfl⟩)) k1 k2 v1 v2 (fun b hb => by cases hb; omega) g2 g3 (by simpa using hc) (by rw [List.getElem?_set_self (by omega)]) g4
      (fun b hb => by cases hb; have := Mem.get_lt hL; have := Mem.get_lt hB; omega)
    rw [List.set_set] at j3
    rw [List.append_assoc, List.singleton_append, ← List.drop_eq_getElem_cons hlv] at j4
    refine ⟨s2, M2, rb2, ?_, j2, j3, j4, g5.step j5 (fun c hc => ?_), fun b hb => ?_⟩
    · subst e1 w1
      have w2' : ixA 4 ks.length ⟨vb', 0⟩ (i : Int) = some (.ptr (some ⟨vb', i * 4⟩)) := by rw [← hks]; exact w2
      simp only [aps, ips, g76_0_is (H := H18), T.g76_0, Option.bind_some, p2, bin_lss, condA, decide_eq_true (show (i : Int) < (ks.length : Int) by omega)]
      simp only [aps, ips, g76_1_is (H := H18), T.g76_1, D2_call, Option.bind_some, p2, q1, p1, condA, unA, ld30, ld70, ix114, ix47, true_or, if_true, e2, e3, w2, w3, callA, g1, Bool.not_true]
      simp only [aps, ips, g76_2_is (H := H18), T.g76_2, Option.bind_some, p2, bin_add, show (i : Int) + 1 = ((i + 1 : Nat) : Int) by omega, wrap_i64 (n := ((i + 1 : Nat) : Int)) (by omega) (by omega)]
      exact j1
    · simp only [List.mem_cons, Option.mem_toList, Option.some.injEq] at hc ⊢
      rcases hc with rfl | rfl | rfl
      · exact .inl (.inl rfl)
      · exact .inl (.inr (.inl rfl))
      · exact .inr g6
    · rcases j6 b hb with h | h
      · cases h; exact .inr g6
      · exact .inr (Nat.le_trans g5.next h)
theorem keysA {t : Nat} {ks : List Int} {vs : List (List AV)} {most : Int} {F : List Nat} (hT : TabAt (.int .u64) 4 M t ks vs most F) (hn : ks.length ≤ 1000) :
    ∃ b ex m', run E18 (.fn 77) [.ptr (some ⟨t, 0⟩)] M = some (.sl (some ⟨b, 0⟩) 1 ks.length ks.length ex, m') ∧ m'.get b = some (.cells (ks.map fun k => [.int .u64 k]).flatten false) ∧ Fr M m' [] ∧ M.next ≤ b ∧ (0 < ks.length → ex = false) := by
  obtain ⟨⟨sk, sv, kb, vb, h1, h2, h3, h4, h5, h6, rfl⟩, h7⟩ := hT
  have f1 : Fr M (M.lay (.cells [] false)) [] := (Fr.refl M).lay _
  have a3 : ∀ i : Nat, ld1 (M.lay (.cells [] false)) (.ptr (some ⟨t, i⟩)) = [sk, sv, .int .i64 most][i]? := fun i => ld1_at (f1.get h1 (by simp))
  obtain ⟨b, ex, m', g1, g2, g3, g4, g5⟩ := clone_trow (w := 8) h2 (bytes_ok (by simp; omega) (by decide))
  simp only [List.length_map] at g1 g5
  refine ⟨b, ex, m', ?_, g2, g3, g4, g5⟩
  simp only [ge, aps, ips, f77_is (H := H18) rfl, T.f77, Option.bind_some, sB, p1, q1, apE, nnA, fa116_0, ld114, Nat.add_zero, a3, g1]
theorem valsA {t : Nat} {ks : List Int} {vs : List (List AV)} {most : Int} {F : List Nat} (hT : TabAt (.int .u64) 4 M t ks vs most F) (hn : ks.length ≤ 1000) :
    ∃ b ex m', run E18 (.fn 78) [.ptr (some ⟨t, 0⟩)] M = some (.sl (some ⟨b, 0⟩) 4 vs.length vs.length ex, m') ∧ m'.get b = some (.cells vs.flatten false) ∧ Fr M m' [] ∧ M.next ≤ b ∧ (0 < vs.length → ex = false) := by
  obtain ⟨⟨sk, sv, kb, vb, h1, h2, h3, h4, h5, h6, rfl⟩, h7⟩ := hT
  have f1 : Fr M (M.lay (.cells [] false)) [] := (Fr.refl M).lay _
  have a3 : ∀ i : Nat, ld1 (M.lay (.cells [] false)) (.ptr (some ⟨t, i⟩)) = [sk, sv, .int .i64 most][i]? := fun i => ld1_at (f1.get h1 (by simp))
  obtain ⟨b, ex, m', g1, g2, g3, g4, g5⟩ := clone_trow (w := 40) h3 (bytes_ok (by omega) (by decide))
  refine ⟨b, ex, m', ?_, g2, g3, g4, g5⟩
  simp only [ge, aps, ips, f78_is (H := H18) rfl, T.f78, Option.bind_some, sB, p1, q1, apE, nnA, fa116_1, ld47, Nat.zero_add, a3, g1]
theorem rngA {t fb : Nat} {ks : List Int} {vs : List (List AV)} {most : Int} {F : List Nat} (hT : TabAt (.int .u64) 4 M t ks vs most F) (hn : ks.length ≤ 1000)
    (hfb : M.get fb = some (.cells [.ptr (some ⟨t, 0⟩)] false)) (hB : M.get bb = some (.cells cs false)) (hc : cs.length = 4) (hs : cs[2]? = some s) (hr : TRow 4 M s [] none) (go : Option Jmp → Mem → R) :
    ∃ s' M' rb', rangeK (run E18) (.fn (rsOf (T.EH fun _ => none) 16)) (.fn (.func 75) [] [.ptr (some ⟨fb, 0⟩)]) (loopOf (T.EH fun _ => none) 16 2 (([.undef, .undef, t2, (.ptr (some ⟨bb, 0⟩)), .undef, .undef, .undef, .undef, .undef, t9, .undef, .undef, .undef, .undef, .undef, .undef, .undef, .undef, .undef, .undef, .undef, .undef, .undef, .undef, .undef, .undef, .undef, .undef, .undef, .undef, .undef, .undef, .undef, .undef, .undef, .undef, .undef, .undef, .undef, .undef, .undef, .undef, .undef, .undef, .undef, t45, .undef, t47] ++ List.replicate 7 .undef))) M go = go none M' ∧
      M'.get bb = some (.cells (cs.set 2 s') false) ∧ TRow 4 M' s' vs rb' ∧ Fr M M' [bb] ∧ (∀ b, rb' = some b → M.next ≤ b) := by
  have lB := Mem.get_lt hB
  have lT := hT.lt
  obtain ⟨M1, hM1⟩ : ∃ M1, M1 = M.lay (.loop (loopOf (T.EH fun _ => none) 16 2 (([.undef, .undef, t2, (.ptr (some ⟨bb, 0⟩)), .undef, .undef, .undef, .undef, .undef, t9, .undef, .undef, .undef, .undef, .undef, .undef, .undef, .undef, .undef, .undef, .undef, .undef, .undef, .undef, .undef, .undef, .undef, .undef, .undef, .undef, .undef, .undef, .undef, .undef, .undef, .undef, .undef, .undef, .undef, .undef, .undef, .undef, .undef, .undef, .undef, t45, .undef, t47] ++ List.replicate 7 .undef)))) := ⟨_, rfl⟩
  have f1 : Fr M M1 [] := by rw [hM1]; exact (Fr.refl M).lay _
  have n1 : M1.next = M.next + 1 := by rw [hM1]; rfl
  have L1 : M1.get M.next = some (.loop { loopOf (T.EH fun _ => none) 16 2 (([.undef, .undef, t2, (.ptr (some ⟨bb, 0⟩)), .undef, .undef, .undef, .undef, .undef, t9, .undef, .undef, .undef, .undef, .undef, .undef, .undef, .undef, .undef, .undef, .undef, .undef, .undef, .undef, .undef, .undef, .undef, .undef, .undef, .undef, .undef, .undef, .undef, .undef, .undef, .undef, .undef, .undef, .undef, .undef, .undef, .undef, .undef, .undef, .undef, t45, .undef, t47] ++ List.replicate 7 .undef)) with state := .ready, pending := none }) := by rw [← loopOf_ready, hM1]; exact lay_self _ _
  obtain ⟨kb, ek, M2, k1, k2, k3, k4, k5⟩ := keysA (hT.frame f1 (by simp)) hn
  obtain ⟨vb, ev, M3, v1, v2, v3, v4, v5⟩ := valsA ((hT.frame f1 (by simp)).frame k3 (by simp)) hn
  have d1 : ld1 M1 (.ptr (some ⟨fb, 0⟩)) = some (.ptr (some ⟨t, 0⟩)) := by rw [ld1_at (f1.get hfb (by simp))]; rfl
  have d2 : ld1 M2 (.ptr (some ⟨fb, 0⟩)) = some (.ptr (some ⟨t, 0⟩)) := by rw [ld1_at (k3.get (f1.get hfb (by simp)) (by simp))]; rfl
  have f3 : Fr M1 M3 [] := k3.step0 v3
  have L3 := f3.get L1 (by simp)
  have B3 := f3.get (f1.get hB (by simp)) (by simp)
  have r3 := (hr.frame f1 (by simp)).frame f3 (by simp)
  have n2 := k3.next
  have fin : ∃ s' M' rb', D18.gor 311296 [.sl (some ⟨vb, 0⟩) 4 vs.length vs.length ev, .yld M.next, .sl (some ⟨kb, 0⟩) 1 ks.length ks.length ek, .int .i64 (ks.length : Int), .int .i64 ((0 : Nat) : Int)] M3 = some (.undef, M') ∧ M'.get M.next = some (.loop { loopOf (T.EH fun _ => none) 16 2 (([.undef, .undef, t2, (.ptr (some ⟨bb, 0⟩)), .undef, .undef, .undef, .undef, .undef, t9, .undef, .undef, .undef, .undef, .undef, .undef, .undef, .undef, .undef, .undef, .undef, .undef, .undef, .undef, .undef, .undef, .undef, .undef, .undef, .undef, .undef, .undef, .undef, .undef, .undef, .undef, .undef, .undef, .undef, .undef, .undef, .undef, .undef, .undef, .undef, t45, .undef, t47] ++ List.replicate 7 .undef)) with state := .ready, pending := none }) ∧
      M'.get bb = some (.cells (cs.set 2 s') false) ∧ TRow 4 M' s' vs rb' ∧ Fr M3 M' [M.next, bb] ∧ (∀ b, rb' = some b → M3.next ≤ b) := by
    have hvl := hT.len
    by_cases h0 : ks.length = 0
    · have e : vs = [] := List.length_eq_zero_iff.1 (by omega)
      subst e
      refine ⟨s, M3, none, ?_, L3, ?_, r3, Fr.refl' _ _, nofun⟩
      · simp only [aps, ips, g76_0_is (H := H18), T.g76_0, Option.bind_some, p2, bin_lss, condA, decide_eq_false (show ¬ ((0 : Nat) : Int) < (ks.length : Int) by omega)]
      · rw [show cs.set 2 s = cs from set_here hs]; exact B3
    · have hk := k5 (by omega)
      have hv := v5 (by omega)
      subst hk hv
      obtain ⟨⟨sk, sv, kb', vb', h1, h2, h3, h4, h5, h6, h7⟩, h8⟩ := hT
      have tK : TRow 1 M3 (.sl (some ⟨kb, 0⟩) 1 ks.length ks.length false) (ks.map fun k => [.int .u64 k]) (some kb) := ⟨h2.1, .inr ⟨kb, rfl, by simp, v3.get k2 (by simp)⟩⟩
      have tV : TRow 4 M3 (.sl (some ⟨vb, 0⟩) 4 vs.length vs.length false) vs (some vb) := ⟨h3.1, .inr ⟨vb, rfl, rfl, v2⟩⟩
      obtain ⟨s', M', rb', g1, g2, g3, g4, g5, g6⟩ := tellA_loop t2 t9 t45 t47 h8 hn (show M.next ≠ bb by omega) ks.length 0 M3 s [] none cs (by omega) (by simp; omega) tK tV (by omega) (by omega) (by omega) (by omega) (by simp) L3 B3 hc hs r3 (by simp)
      exact ⟨s', M', rb', g1, g2, g3, by simpa using g4, by simpa using g5, fun b hb => by rcases g6 b hb with h | h; cases h; exact h⟩
  obtain ⟨s', M4, rb', g1, g2, g3, g4, g5, g6⟩ := fin
  refine ⟨s', M4.put M.next none, rb', ?_, ?_, ?_, ?_, ?_⟩
  · have hrun : run E18 (.fn 75) [.yld M.next, .ptr (some ⟨fb, 0⟩)] M1 = some (.undef, M4) := by
      simp only [aps, ips, f75_is (H := H18) rfl, T.f75, D2_call, Option.bind_some, q1, ld58, d1, k1, d2, v1, if_true]
      simp only [aps, ips, f76_is (H := H18) rfl, T.f76, Option.bind_some, p1, len114]
      rw [show (0 : Int) = ((0 : Nat) : Int) from rfl, g1]
      rfl
    unfold rangeK
    simp only [around, if_true, List.nil_append, List.singleton_append]
    rw [← hM1, hrun]
    show rangeEnd M.next M4 go = _
    unfold rangeEnd
    simp only [g2]
    rfl
  · rw [put_ne (by omega)]; exact g3
  · exact g4.frame (Fr.put _ _ _) (fun b hb => by have := g6 b hb; have := f3.next; simp; omega)
  · refine Fr.put' ?_ (.inr (Nat.le_refl _))
    exact ((f1.any _).step0 f3).step g5 (fun c hc => by
      simp only [List.mem_cons, List.not_mem_nil, or_false] at hc
      rcases hc with rfl | rfl
      · exact .inr (Nat.le_refl _)
      · exact .inl (by simp))
  · intro b hb
    have := g6 b hb; have := f3.next; have := f1.next; omega
end
end Go.Proofs.YtlginbmjiecglaaGreat
end
section
namespace Go.Proofs.YtlginbmjiecglaaGreat
set_option maxRecDepth 8000
open Go Go.Abs
theorem D2_callf {H : FuncId → Option (List AV → Mem → R)} : (T.Rl H).call = run (T.EH H) := rfl
theorem allP_is (M : Mem) (t : Nat) : run E18 (.fn 42) [.ptr (some ⟨t, 0⟩)] M = some (.fn (.func 67) [] [.ptr (some ⟨M.next, 0⟩)], M.lay (.cells [.ptr (some ⟨t, 0⟩)] false)) := by
  simp only [aps, ips, f42_is (H := H18) rfl, T.f42, Option.bind_some, boxA, AV.cells, Option.map_some]
theorem allQ_is (M : Mem) (t : Nat) : run E18 (.fn 43) [.ptr (some ⟨t, 0⟩)] M = some (.fn (.func 71) [] [.ptr (some ⟨M.next, 0⟩)], M.lay (.cells [.ptr (some ⟨t, 0⟩)] false)) := by
  simp only [aps, ips, f43_is (H := H18) rfl, T.f43, Option.bind_some, boxA, AV.cells, Option.map_some]
theorem allA_is (M : Mem) (t : Nat) : run E18 (.fn 44) [.ptr (some ⟨t, 0⟩)] M = some (.fn (.func 75) [] [.ptr (some ⟨M.next, 0⟩)], M.lay (.cells [.ptr (some ⟨t, 0⟩)] false)) := by
  simp only [aps, ips, f44_is (H := H18) rfl, T.f44, Option.bind_some, boxA, AV.cells, Option.map_some]
section
variable {m : Mem} {b : Nat} {st : LSt} {F : List Nat}
theorem book_is (h : LedgerAt m b st F) (w : LWf st) :
    ∃ sp sq sa m' r1 r2 r3, run E18 (.fn 16) [.ptr (some ⟨b, 0⟩)] m = some (.agg [sp, sq, sa, .int .u64 st.latest], m') ∧ TRow 4 m' sp (st.purses.map (·.cells)) r1 ∧ TRow 9 m' sq (st.pairs.map (·.cells)) r2 ∧ TRow 4 m' sa (st.accs.map (·.cells)) r3 ∧ Fr m m' [] ∧
      (∀ c, r1 = some c → m.next ≤ c) ∧ (∀ c, r2 = some c → m.next ≤ c) ∧ (∀ c, r3 = some c → m.next ≤ c) := by
  obtain ⟨tp, tq, ta, FP, FQ, FA, h1, h2, h3, h4, h5, h6, h7, h8, h9, h10, rfl⟩ := h.ex
  have hb := Mem.get_lt h1
  have a3 : ∀ i : Nat, ld1 m (.ptr (some ⟨b, i⟩)) = [.int .i64 st.most, .ptr (some ⟨tp, 0⟩), .ptr (some ⟨tq, 0⟩), .ptr (some ⟨ta, 0⟩), .int .u64 st.latest][i]? := fun i => ld1_at h1
  have lp := w.lp
  have lq := w.lq
  have la := w.la
  obtain ⟨M0, hM0⟩ : ∃ M0, M0 = ((m.lay (.cells [.sl none 0 0 0 true, .sl none 0 0 0 true, .sl none 0 0 0 true, .int .u64 0] false)).lay (.cells [.sl none 0 0 0 true, .sl none 0 0 0 true, .sl none 0 0 0 true, .int .u64 st.latest] false)).lay (.cells [.ptr (some ⟨tp, 0⟩)] false) := ⟨_, rfl⟩
  have f0 : Fr m M0 [] := by rw [hM0]; (repeat apply Fr.lays); exact Fr.refl _
  have n0 : M0.next = m.next + 1 + 1 + 1 := by rw [hM0]; rfl
  have B0 : M0.get (m.next + 1) = some (.cells [.sl none 0 0 0 true, .sl none 0 0 0 true, .sl none 0 0 0 true, .int .u64 st.latest] false) := by rw [hM0]; simp [Mem.get_lay]
  have R0 : M0.get m.next = some (.cells [.sl none 0 0 0 true, .sl none 0 0 0 true, .sl none 0 0 0 true, .int .u64 0] false) := by rw [hM0]; simp only [Mem.get_lay, Mem.next_lay, nn1, nn2, if_true, if_false]
  have A0 : M0.get (m.next + 1 + 1) = some (.cells [.ptr (some ⟨tp, 0⟩)] false) := by rw [hM0]; simp [Mem.get_lay]
  obtain ⟨sp, M1, r1, p1, p2, p3, p4, p5⟩ := rngP (bb := m.next + 1) (.ptr (some ⟨b, 0⟩)) (.ptr (some ⟨m.next, 0⟩)) .undef .undef .undef (.fn (.func 67) [] [.ptr (some ⟨m.next + 1 + 1, 0⟩)]) .undef .undef .undef
    (h2.frame f0 (by simp)) (by simp; omega) A0 B0 rfl rfl (TRow.nil _ _ _ _) (fun j m' => (T.Rl H18).afr 65536 j [.ptr (some ⟨b, 0⟩), .ptr (some ⟨m.next, 0⟩), .ptr (some ⟨m.next + 1, 0⟩), .undef, .undef, .undef, (.fn (.func 67) [] [.ptr (some ⟨m.next + 1 + 1, 0⟩)]), .undef, .undef, .undef] m')
  have f1 : Fr m M1 [] := f0.step p4 (fun c hc => .inr (by simp at hc; omega))
  have k1 := f1.get h1 (by simp)
  have a31 : ∀ i : Nat, ld1 M1 (.ptr (some ⟨b, i⟩)) = [.int .i64 st.most, .ptr (some ⟨tp, 0⟩), .ptr (some ⟨tq, 0⟩), .ptr (some ⟨ta, 0⟩), .int .u64 st.latest][i]? := fun i => ld1_at k1
  have n1 := p4.next
  obtain ⟨M1', hM1'⟩ : ∃ M1', M1' = M1.lay (.cells [.ptr (some ⟨tq, 0⟩)] false) := ⟨_, rfl⟩
  have f1' : Fr M1 M1' [] := by rw [hM1']; exact (Fr.refl M1).lay _
  have A1 : M1'.get M1.next = some (.cells [.ptr (some ⟨tq, 0⟩)] false) := by rw [hM1']; exact lay_self _ _
  simp only [List.set_cons_zero] at p2
  obtain ⟨sq, M2, r2, q1, q2, q3, q4, q5⟩ := rngQ (bb := m.next + 1) (.ptr (some ⟨b, 0⟩)) (.ptr (some ⟨m.next, 0⟩)) .undef .undef (.fn (.func 71) [] [.ptr (some ⟨M1.next, 0⟩)]) .undef .undef
    ((h3.frame f1 (by simp)).frame f1' (by simp)) (by simp; omega) A1 (f1'.get p2 (by simp)) rfl rfl (TRow.nil _ _ _ _) (fun j m' => (T.Rl H18).afr 65537 j [.ptr (some ⟨b, 0⟩), .ptr (some ⟨m.next, 0⟩), .ptr (some ⟨m.next + 1, 0⟩), .undef, .undef, (.fn (.func 71) [] [.ptr (some ⟨M1.next, 0⟩)]), .undef, .undef] m')
  have f12 : Fr M1 M2 [m.next + 1] := (f1'.any _).step q4 (fun c hc => .inl hc)
  have f2 : Fr m M2 [] := f1.step f12 (fun c hc => .inr (by simp at hc; omega))
  have k2 := f2.get h1 (by simp)
  have a32 : ∀ i : Nat, ld1 M2 (.ptr (some ⟨b, i⟩)) = [.int .i64 st.most, .ptr (some ⟨tp, 0⟩), .ptr (some ⟨tq, 0⟩), .ptr (some ⟨ta, 0⟩), .int .u64 st.latest][i]? := fun i => ld1_at k2
  obtain ⟨M2', hM2'⟩ : ∃ M2', M2' = M2.lay (.cells [.ptr (some ⟨ta, 0⟩)] false) := ⟨_, rfl⟩
  have f2' : Fr M2 M2' [] := by rw [hM2']; exact (Fr.refl M2).lay _
  have A2 : M2'.get M2.next = some (.cells [.ptr (some ⟨ta, 0⟩)] false) := by rw [hM2']; exact lay_self _ _
  simp only [List.set_cons_succ, List.set_cons_zero] at q2
  obtain ⟨sa, M3, r3, t1, t2, t3, t4, t5⟩ := rngA (bb := m.next + 1) (.ptr (some ⟨m.next, 0⟩)) .undef (.fn (.func 75) [] [.ptr (some ⟨M2.next, 0⟩)]) .undef
    ((h4.frame f2 (by simp)).frame f2' (by simp)) (by simp; omega) A2 (f2'.get q2 (by simp)) rfl rfl (TRow.nil _ _ _ _) (fun j m' => (T.Rl H18).afr 65538 j [.ptr (some ⟨m.next, 0⟩), .ptr (some ⟨m.next + 1, 0⟩), .undef, (.fn (.func 75) [] [.ptr (some ⟨M2.next, 0⟩)]), .undef] m')
  have f23 : Fr M2 M3 [m.next + 1] := (f2'.any _).step t4 (fun c hc => .inl hc)
  have f3 : Fr m M3 [] := f2.step f23 (fun c hc => .inr (by simp at hc; omega))
  simp only [List.set_cons_succ, List.set_cons_zero] at t2
  have n2 := f12.next
  have R1 : M1.get m.next = some (.cells [.sl none 0 0 0 true, .sl none 0 0 0 true, .sl none 0 0 0 true, .int .u64 0] false) := p4.get R0 (by simp)
  have R3 : M3.get m.next = some (.cells [.sl none 0 0 0 true, .sl none 0 0 0 true, .sl none 0 0 0 true, .int .u64 0] false) := f23.get (f12.get R1 (by simp)) (by simp)
  have one : [sp, sq, sa, AV.int .u64 st.latest].all AV.one = true := by rw [List.all_cons, List.all_cons, List.all_cons, p3.one, q3.one, t3.one]; rfl
  have d3 : ldN M3 (.ptr (some ⟨m.next + 1, 0⟩)) 4 = some (.agg [sp, sq, sa, .int .u64 st.latest]) := ld_all t2 rfl
  have s3 := st_all (n := 4) (v := [sp, sq, sa, .int .u64 st.latest]) R3 rfl rfl one
  have e3 : ldN (M3.put m.next (some (.cells [sp, sq, sa, .int .u64 st.latest] false))) (.ptr (some ⟨m.next, 0⟩)) 4 = some (.agg [sp, sq, sa, .int .u64 st.latest]) := ld_all (put_self R3) rfl
  have fp : Fr M3 (M3.put m.next (some (.cells [sp, sq, sa, .int .u64 st.latest] false))) [m.next] := Fr.put _ _ _
  have g1 : ∀ c, r1 = some c → M0.next ≤ c := p5
  refine ⟨sp, sq, sa, M3.put m.next (some (.cells [sp, sq, sa, .int .u64 st.latest] false)), r1, r2, r3, ?_, ?_, ?_, ?_, f3.put' (.inr (Nat.le_refl _)), fun c hc => by have := p5 c hc; omega, fun c hc => by have := q5 c hc; have := f1'.next; have := f1.next; omega, fun c hc => by have := t5 c hc; have := f2'.next; have := f2.next; omega⟩
  · simp (maxDischargeDepth := 20) only [lms, lcs, ge, aps, ips, f16_is (H := H18) rfl, T.f16, D2_call, Option.bind_some, pB, fillA, AV.cells, Option.map_some, Nat.reduceAdd, Nat.reduceLeDiff, if_true, nnA, fa60_4, fa60_1, ld30, ld56, bd49, AV.one, if_false, over, bnx0 hb, bnx1 hb, a3, allP_is, ← hM0]
    simp only [aps, g16_0_is (H := H18), T.g16_0, interp_rng, D2_callf]
    rw [p1]
    simp only [aps, ips, l16_0_none_is (H := H18), T.l16_0_none]
    simp only [ge, aps, ips, g16_2_is (H := H18), T.g16_2, D2_call, Option.bind_some, nnA, fa60_2, ld57, Nat.zero_add, a31, allQ_is, ← hM1']
    simp only [aps, g16_3_is (H := H18), T.g16_3, interp_rng, D2_callf]
    rw [q1]
    simp only [aps, ips, l16_1_none_is (H := H18), T.l16_1_none]
    simp only [ge, aps, ips, g16_5_is (H := H18), T.g16_5, D2_call, Option.bind_some, nnA, fa60_3, ld58, Nat.zero_add, a32, allA_is, ← hM2']
    simp only [aps, g16_6_is (H := H18), T.g16_6, interp_rng, D2_callf]
    rw [t1]
    simp only [aps, ips, l16_2_none_is (H := H18), T.l16_2_none]
    simp only [aps, ips, g16_8_is (H := H18), T.g16_8, Option.bind_some, resA, nth0, tupA, ld49, d3, s3, e3]
  · exact (((p3.frame f12 (fun c hc => by have := p5 c hc; simp; omega)).frame f23 (fun c hc => by have := p5 c hc; simp; omega))).frame fp (fun c hc => by have := p5 c hc; simp; omega)
  · exact (q3.frame f23 (fun c hc => by have := q5 c hc; have := f1'.next; simp; omega)).frame fp (fun c hc => by have := q5 c hc; have := f1'.next; simp; omega)
  · exact t3.frame fp (fun c hc => by have := t5 c hc; have := f2'.next; have := f2.next; simp; omega)
end
end Go.Proofs.YtlginbmjiecglaaGreat
end
