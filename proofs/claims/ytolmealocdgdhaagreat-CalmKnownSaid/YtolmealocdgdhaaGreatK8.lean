/- Texts of one claim, put together. -/
import Derived.Test.YtolmealocdgdhaaGreatK7
import Derived.Defers
section
namespace Go.Abs
open Go

def IC.er : IC → AC
  | .skip => .skip
  | .region id ops draw chk anc => .region id ops draw chk anc
  | .seq a b => .seq a.er b.er
  | .cond c x y => .cond c x.er y.er
  | .block id b => .block id b.er
  | .loop b => .loop b.er
  | .rangeFunc _ f ps a b => .rangeFunc f ps a b
  | .scope b => .scope b.er
  | .exit id => .exit id
  | .ret => .ret
  | .pt _ live c => .pt live c.er
  | .other c => .other c
theorem index_er : ∀ (c : AC) (n l : Nat), (index c n l).er = c
  | .skip, _, _ | .region .., _, _ | .exit _, _, _ | .ret, _, _ | .rangeFunc .., _, _ | .other _, _, _ => rfl
  | .seq a b, n, l => by simp only [index, IC.er, index_er a, index_er b]
  | .cond c a b, n, l => by simp only [index, IC.er, index_er a, index_er b]
  | .block id b, n, l => by simp only [index, IC.er, index_er b]
  | .loop b, n, l => by simp only [index, IC.er, index_er b]
  | .scope b, n, l => by simp only [index, IC.er, index_er b]
  | .pt live b, n, l => by simp only [index, IC.er, index_er b]

def mkL : IC → List AI → List (Nat × List Bool × List AI)
  | .pt i l c, k => (i, l, .code c.er :: k) :: mkL c k
  | .seq a b, k => mkL a (.code b.er :: k) ++ mkL b k
  | .cond _ x y, k => mkL x k ++ mkL y k
  | .block id b, k => mkL b (.inBlock id :: k)
  | .loop b, k => mkL b (.inLoop b.er :: k)
  | .scope b, k => mkL b (.inScope b.er :: k)
  | _, _ => []
def lpL : IC → List AI → List (Nat × (List Tmp × AC × AC) × List AI)
  | .pt _ _ c, k => lpL c k
  | .seq a b, k => lpL a (.code b.er :: k) ++ lpL b k
  | .cond _ x y, k => lpL x k ++ lpL y k
  | .block id b, k => lpL b (.inBlock id :: k)
  | .loop b, k => lpL b (.inLoop b.er :: k)
  | .scope b, k => lpL b (.inScope b.er :: k)
  | .rangeFunc i _ ps a b, k => [(i, (ps, a, b), k)]
  | _, _ => []
def mksA : AC → List AI → List (List Bool × List AI)
  | .pt l c, k => (l, .code c :: k) :: mksA c k
  | .seq a b, k => mksA a (.code b :: k) ++ mksA b k
  | .cond _ x y, k => mksA x k ++ mksA y k
  | .block id b, k => mksA b (.inBlock id :: k)
  | .loop b, k => mksA b (.inLoop b :: k)
  | .scope b, k => mksA b (.inScope b :: k)
  | .rangeFunc _ _ a b, _ => mksA a [.beginRound, .code b] ++ mksA b []
  | _, _ => []
theorem mksA_marks : ∀ (c : AC) (k : List AI), (mksA c k).map (·.2) = marks c k
  | .pt l c, k => by simp only [mksA, marks, List.map_cons, mksA_marks c]
  | .seq a b, k => by simp only [mksA, marks, List.map_append, mksA_marks a, mksA_marks b]
  | .cond _ a b, k => by simp only [mksA, marks, List.map_append, mksA_marks a, mksA_marks b]
  | .block id b, k => by simp only [mksA, marks, mksA_marks b]
  | .loop b, k => by simp only [mksA, marks, mksA_marks b]
  | .scope b, k => by simp only [mksA, marks, mksA_marks b]
  | .rangeFunc _ _ a b, k => by simp only [mksA, marks, List.map_append, mksA_marks a, mksA_marks b]
  | .skip, _ | .region .., _ | .exit _, _ | .ret, _ | .other _, _ => rfl
theorem mksA_length : ∀ (c : AC) (k : List AI), (mksA c k).length = nMarks c
  | .pt l c, k => by simp only [mksA, nMarks, List.length_cons, mksA_length c]
  | .seq a b, k => by simp only [mksA, nMarks, List.length_append, mksA_length a, mksA_length b]
  | .cond _ a b, k => by simp only [mksA, nMarks, List.length_append, mksA_length a, mksA_length b]
  | .block id b, k => by simp only [mksA, nMarks, mksA_length b]
  | .loop b, k => by simp only [mksA, nMarks, mksA_length b]
  | .scope b, k => by simp only [mksA, nMarks, mksA_length b]
  | .rangeFunc _ _ a b, k => by simp only [mksA, nMarks, List.length_append, mksA_length a, mksA_length b]
  | .skip, _ | .region .., _ | .exit _, _ | .ret, _ | .other _, _ => rfl
theorem loops_length : ∀ (c : AC), (loops c).length = nLoops c
  | .pt l c => by simp only [loops, nLoops, loops_length c]
  | .seq a b => by simp only [loops, nLoops, List.length_append, loops_length a, loops_length b]
  | .cond _ a b => by simp only [loops, nLoops, List.length_append, loops_length a, loops_length b]
  | .block id b => by simp only [loops, nLoops, loops_length b]
  | .loop b => by simp only [loops, nLoops, loops_length b]
  | .scope b => by simp only [loops, nLoops, loops_length b]
  | .rangeFunc _ _ a b => by simp only [loops, nLoops, List.length_cons, List.length_append, loops_length a, loops_length b]
  | .skip | .region .. | .exit _ | .ret | .other _ => rfl
theorem lmarks_length : ∀ (c : AC) (k : List AI), (lmarks c k).length = nLoops c
  | .pt l c, k => by simp only [lmarks, nLoops, lmarks_length c]
  | .seq a b, k => by simp only [lmarks, nLoops, List.length_append, lmarks_length a, lmarks_length b]
  | .cond _ a b, k => by simp only [lmarks, nLoops, List.length_append, lmarks_length a, lmarks_length b]
  | .block id b, k => by simp only [lmarks, nLoops, lmarks_length b]
  | .loop b, k => by simp only [lmarks, nLoops, lmarks_length b]
  | .scope b, k => by simp only [lmarks, nLoops, lmarks_length b]
  | .rangeFunc _ _ a b, k => by simp only [lmarks, nLoops, List.length_cons, List.length_append, lmarks_length a, lmarks_length b]
  | .skip, _ | .region .., _ | .exit _, _ | .ret, _ | .other _, _ => rfl

theorem getApp {α : Type} {a b : List α} {i : Nat} {x : α} (h : a[i]? = some x) : (a ++ b)[i]? = some x := by
  rw [List.getElem?_append_left (List.getElem?_eq_some_iff.1 h).1]; exact h
theorem getApp2 {α : Type} {a b : List α} {i n : Nat} {x : α} (hn : a.length = n) (h : b[i]? = some x) : (a ++ b)[n + i]? = some x := by
  subst hn
  rw [List.getElem?_append_right (Nat.le_add_right _ _), Nat.add_sub_cancel_left]; exact h
theorem mkL_index : ∀ (c : AC) (n l : Nat) (k : List AI), ∀ x ∈ mkL (index c n l) k, ∃ i, x.1 = n + i ∧ (mksA c k)[i]? = some x.2
  | .skip, _, _, _, x, hx | .region .., _, _, _, x, hx | .exit _, _, _, _, x, hx | .ret, _, _, _, x, hx | .rangeFunc .., _, _, _, x, hx | .other _, _, _, _, x, hx => by simp [index, mkL] at hx
  | .pt live c, n, l, k, x, hx => by
    simp only [index, mkL, List.mem_cons, index_er] at hx
    rcases hx with rfl | hx
    · exact ⟨0, rfl, rfl⟩
    · obtain ⟨i, h1, h2⟩ := mkL_index c _ _ _ x hx
      exact ⟨i + 1, by omega, h2⟩
  | .seq a b, n, l, k, x, hx => by
    simp only [index, mkL, List.mem_append, index_er] at hx
    rcases hx with hx | hx
    · obtain ⟨i, h1, h2⟩ := mkL_index a _ _ _ x hx
      exact ⟨i, h1, getApp h2⟩
    · obtain ⟨i, h1, h2⟩ := mkL_index b _ _ _ x hx
      exact ⟨nMarks a + i, by omega, getApp2 (mksA_length _ _) h2⟩
  | .cond _ a b, n, l, k, x, hx => by
    simp only [index, mkL, List.mem_append] at hx
    rcases hx with hx | hx
    · obtain ⟨i, h1, h2⟩ := mkL_index a _ _ _ x hx
      exact ⟨i, h1, getApp h2⟩
    · obtain ⟨i, h1, h2⟩ := mkL_index b _ _ _ x hx
      exact ⟨nMarks a + i, by omega, getApp2 (mksA_length _ _) h2⟩
  | .block id b, n, l, k, x, hx => mkL_index b n l _ x hx
  | .loop b, n, l, k, x, hx => by
    simp only [index, mkL, index_er] at hx
    exact mkL_index b n l _ x hx
  | .scope b, n, l, k, x, hx => by
    simp only [index, mkL, index_er] at hx
    exact mkL_index b n l _ x hx
theorem lpL_index : ∀ (c : AC) (n l : Nat) (k : List AI), ∀ x ∈ lpL (index c n l) k, ∃ i, x.1 = l + i ∧ (loops c)[i]? = some x.2.1 ∧ (lmarks c k)[i]? = some x.2.2
  | .skip, _, _, _, x, hx | .region .., _, _, _, x, hx | .exit _, _, _, _, x, hx | .ret, _, _, _, x, hx | .other _, _, _, _, x, hx => by simp [index, lpL] at hx
  | .rangeFunc f ps a b, n, l, k, x, hx => by
    simp only [index, lpL, List.mem_singleton] at hx
    subst hx
    exact ⟨0, rfl, rfl, rfl⟩
  | .pt live c, n, l, k, x, hx => lpL_index c _ _ _ x hx
  | .seq a b, n, l, k, x, hx => by
    simp only [index, lpL, List.mem_append, index_er] at hx
    rcases hx with hx | hx
    · obtain ⟨i, h1, h2, h3⟩ := lpL_index a _ _ _ x hx
      exact ⟨i, h1, getApp h2, getApp h3⟩
    · obtain ⟨i, h1, h2, h3⟩ := lpL_index b _ _ _ x hx
      exact ⟨nLoops a + i, by omega, getApp2 (loops_length _) h2, getApp2 (lmarks_length _ _) h3⟩
  | .cond _ a b, n, l, k, x, hx => by
    simp only [index, lpL, List.mem_append] at hx
    rcases hx with hx | hx
    · obtain ⟨i, h1, h2, h3⟩ := lpL_index a _ _ _ x hx
      exact ⟨i, h1, getApp h2, getApp h3⟩
    · obtain ⟨i, h1, h2, h3⟩ := lpL_index b _ _ _ x hx
      exact ⟨nLoops a + i, by omega, getApp2 (loops_length _) h2, getApp2 (lmarks_length _ _) h3⟩
  | .block id b, n, l, k, x, hx => lpL_index b n l _ x hx
  | .loop b, n, l, k, x, hx => by
    simp only [index, lpL, index_er] at hx
    exact lpL_index b n l _ x hx
  | .scope b, n, l, k, x, hx => by
    simp only [index, lpL, index_er] at hx
    exact lpL_index b n l _ x hx

def Mq (E : Env) (k : Nat) : List Bool := cutL (ntOf E (k / 4096)) ((((mksA (codeOf E (k / 4096)) [])[k % 4096]?).map (·.1)).getD [])
def Nq (E : Env) (k : Nat) : List Bool := List.replicate (ntOf E (k / 4096)) true
def IC.okL : IC → Bool
  | .seq a b | .cond _ a b => a.okL && b.okL
  | .block _ b | .scope b => b.okL
  | .loop b => (match b with | .pt .. => true | _ => false) && b.okL
  | .pt i _ c => Nat.blt i 4096 && c.okL
  | .rangeFunc i .. => Nat.blt i 4096
  | _ => true

theorem cutL_length : ∀ (n : Nat) (l : List Bool), (cutL n l).length = n
  | 0, _ => rfl
  | n + 1, [] => by simp only [cutL, List.length_cons, cutL_length n]
  | n + 1, _ :: l => by simp only [cutL, List.length_cons, cutL_length n]
theorem mask_cut : ∀ (t : List AV) (l : List Bool), mask (cutL t.length l) t = mask l t
  | [], l => by cases l <;> rfl
  | v :: t, [] => by
    show .undef :: mask (cutL t.length []) t = .undef :: mask [] t
    rw [mask_cut t]
  | v :: t, true :: l => by
    show v :: mask (cutL t.length l) t = v :: mask l t
    rw [mask_cut t]
  | v :: t, false :: l => by
    show .undef :: mask (cutL t.length l) t = .undef :: mask l t
    rw [mask_cut t]
theorem spread_live (t : List AV) : ∀ (bs : List Bool) (j : Nat), j + bs.length = t.length → spread bs ((liveL j bs).map (nth t)) = mask bs (t.drop j)
  | [], j, h => by rw [List.drop_eq_nil_of_le (by simp at h; omega)]; rfl
  | b :: bs, j, h => by
    have hj : j < t.length := by simp at h; omega
    have ih := spread_live t bs (j + 1) (by simp at h; omega)
    rw [List.drop_eq_getElem_cons hj]
    cases b with
    | true =>
      show nth t j :: spread bs ((liveL (j + 1) bs).map (nth t)) = t[j] :: mask bs (t.drop (j + 1))
      rw [ih, nth_eq, List.getD_eq_getElem?_getD, List.getElem?_eq_getElem hj]; rfl
    | false =>
      have hu : ∀ vs, spread (false :: bs) vs = .undef :: spread bs vs := fun vs => by cases vs <;> rfl
      show spread (false :: bs) ((liveL (j + 1) bs).map (nth t)) = .undef :: mask bs (t.drop (j + 1))
      rw [hu, ih]
theorem spread_all : ∀ (t : List AV), spread (List.replicate t.length true) t = t
  | [] => rfl
  | v :: t => by
    show v :: spread (List.replicate t.length true) t = _
    rw [spread_all t]
theorem range_nth (t : List AV) : (List.range t.length).map (nth t) = t := by
  apply List.ext_getElem
  · simp
  · intro i h1 h2
    simp only [List.getElem_map, List.getElem_range]
    rw [nth_eq, List.getD_eq_getElem?_getD, List.getElem?_eq_getElem h2]; rfl

section
variable {E : Env} {f nt : Nat} {rs : List ResultVar} {d : Do}
theorem lsK_eq {e : Ev} : ∀ (is : List Nat) (K : List AV → CM), lsK e is K = K (is.map fun i => (fnd i e).v)
  | [], K => rfl
  | i :: is, K => by
    unfold lsK
    rw [fndK_eq, lsK_eq is]; rfl
theorem lsK_rel {e : Ev} {t : List AV} (h : Rel nt e t) (is : List Nat) (K : List AV → CM) : lsK e is K = K (is.map (nth t)) := by
  rw [lsK_eq]; congr 1
  exact List.map_congr_left fun i _ => h.2 i

def MkOk (E : Env) (f nt : Nat) (c : IC) (k : List AI) : Prop := ∀ x ∈ mkL c k, kAt E f x.1 = x.2.2 ∧ x.1 < 4096 ∧ Mq E (4096 * f + x.1) = cutL nt x.2.1
def LpOk (E : Env) (f nt : Nat) (c : IC) (k : List AI) : Prop := ∀ x ∈ lpL c k, kLoop E f x.1 = x.2.2 ∧ (loops (codeOf E f))[x.1]? = some x.2.1 ∧ x.1 < 4096 ∧ Nq E (4096 * f + x.1) = List.replicate nt true
def KOk (E : Env) (nt : Nat) (rs : List ResultVar) (k : List AI) (K : Ev → CM) : Prop := ∀ e t m, Rel nt e t → interp (real E (Mq E) (Nq E)) (K e) m = go E (mdR rs) k t m
def ExOk (E : Env) (nt : Nat) (rs : List ResultVar) (k : List AI) (ex : List (Nat × (Ev → CM))) : Prop := ∀ id e t m, Rel nt e t →
  interp (real E (Mq E) (Nq E)) (exK ex id e) m = match aexit id k with | some k' => go E (mdR rs) k' t m | none => none

theorem ExOk.push {k : List AI} {ex : List (Nat × (Ev → CM))} (h : ExOk E nt rs k ex) {x : AI} (hx : ∀ id, x ≠ .inBlock id) : ExOk E nt rs (x :: k) ex := fun id e t m hr => by
  rw [h id e t m hr]
  cases x with
  | inBlock id => exact absurd rfl (hx id)
  | _ => rfl
theorem ExOk.block {k : List AI} {ex : List (Nat × (Ev → CM))} (h : ExOk E nt rs k ex) {K : Ev → CM} (hK : KOk E nt rs k K) (j : Nat) : ExOk E nt rs (.inBlock j :: k) ((j, K) :: ex) := fun id e t m hr => by
  show interp _ (match Nat.beq j id with | true => K e | false => exK ex id e) m = match (if j = id then some k else aexit id k) with | some k' => go E (mdR rs) k' t m | none => none
  rw [beqN]
  by_cases hj : j = id
  · rw [decide_eq_true hj, if_pos hj]; exact hK e t m hr
  · rw [decide_eq_false hj, if_neg hj]; exact h id e t m hr

theorem key_div {f i : Nat} (h : i < 4096) : (4096 * f + i) / 4096 = f ∧ (4096 * f + i) % 4096 = i := by omega

theorem goK_eq {i : Nat} {live : List Bool} {k : List AI} (hk : kAt E f i = k) (hi : i < 4096) (hM : Mq E (4096 * f + i) = cutL nt live) (hrs : rsOf E f = rs) {e : Ev} {t : List AV} (h : Rel nt e t) (m : Mem) :
    interp (real E (Mq E) (Nq E)) (goK f nt i live e) m = go E (mdR rs) k (mask live t) m := by
  unfold goK
  rw [lsK_rel h, interp_go]
  show goAt E ((4096 * f + i) / 4096) ((4096 * f + i) % 4096) (spread (Mq E (4096 * f + i)) _) m = _
  rw [(key_div hi).1, (key_div hi).2, hM, spread_live t (cutL nt live) 0 (by rw [cutL_length, h.1]; omega), List.drop_zero, ← h.1, mask_cut]
  show go E (mdR (rsOf E f)) (kAt E f i) _ m = _
  rw [hrs, hk]

theorem resA_tmps {P : Program} {t : List AV} {m : Mem} : ∀ {l : List ResultVar}, allTmp l = true → resA P l t m = some (l.map fun r => nth t (rvI r))
  | [], _ => rfl
  | .tmp i :: l, h => by
    show (match resA P l t m with | some vs => some (nth t i :: vs) | none => none) = _
    rw [resA_tmps (l := l) h]; rfl
theorem nth_pre (pre us : List AV) (j : Nat) : nth (pre ++ us) (pre.length + j) = nth us j := by
  rw [nth_eq, nth_eq, List.getD_eq_getElem?_getD, List.getD_eq_getElem?_getD, List.getElem?_append_right (Nat.le_add_right _ _), Nat.add_sub_cancel_left]
theorem resA_renum {P : Program} {t : List AV} {m : Mem} : ∀ (l : List ResultVar) (pre : List AV), resA P (renum pre.length l) (pre ++ l.map fun r => nth t (rvI r)) m = resA P l t m
  | [], pre => rfl
  | .tmp i :: l, pre => by
    have ih := resA_renum (t := t) (m := m) (P := P) l (pre ++ [nth t i])
    have e1 : nth (pre ++ (nth t i :: l.map fun r => nth t (rvI r))) pre.length = nth t i := nth_pre pre _ 0
    simp only [List.length_append, List.length_singleton, List.append_assoc, List.singleton_append] at ih
    show (match resA P (renum (pre.length + 1) l) (pre ++ (nth t i :: l.map fun r => nth t (rvI r))) m with | some vs => some (nth (pre ++ (nth t i :: l.map fun r => nth t (rvI r))) pre.length :: vs) | none => none) = _
    rw [ih, e1]; rfl
  | .cell a ty :: l, pre => by
    have ih := resA_renum (t := t) (m := m) (P := P) l (pre ++ [nth t a])
    have e1 : nth (pre ++ (nth t a :: l.map fun r => nth t (rvI r))) pre.length = nth t a := nth_pre pre _ 0
    simp only [List.length_append, List.length_singleton, List.append_assoc, List.singleton_append] at ih
    show (match loadA P ty (nth (pre ++ (nth t a :: l.map fun r => nth t (rvI r))) pre.length) m, resA P (renum (pre.length + 1) l) (pre ++ (nth t a :: l.map fun r => nth t (rvI r))) m with | some v, some vs => some (v :: vs) | _, _ => none) = _
    rw [ih, e1]; rfl
theorem retK_eq {e : Ev} {t : List AV} (h : Rel nt e t) (m : Mem) (k : List AI) : interp (real E (Mq E) (Nq E)) (retK (realO E) nt rs e) m = go E (mdR rs) (.code .ret :: k) t m := by
  rw [go_step]
  unfold retK mdR
  cases hd : isDf rs with
  | true =>
    simp only
    rw [lsK_rel h, ← h.1, range_nth]; rfl
  | false =>
    simp only
    rw [lsK_rel h, List.map_map]
    show _ = (resA E.P rs t m).bind fun vs => some (tupA vs, m)
    cases ha : allTmp rs with
    | true => rw [resA_tmps ha]; rfl
    | false =>
      simp only [interp_resC]
      show (resA E.P (renum 0 rs) ([] ++ rs.map fun r => nth t (rvI r)) m).bind _ = _
      have := resA_renum (P := E.P) (t := t) (m := m) rs []
      simp only [List.length_nil] at this
      rw [this]
theorem retK_nil {e : Ev} {t : List AV} (h : Rel nt e t) (m : Mem) : interp (real E (Mq E) (Nq E)) (retK (realO E) nt rs e) m = go E (mdR rs) [] t m := by
  rw [retK_eq h m [], go_step, go_step]
  unfold mdR
  cases isDf rs <;> rfl

theorem MkOk.sub {c : IC} {k : List AI} (h : MkOk E f nt c k) {c' : IC} {k' : List AI} (hs : ∀ x ∈ mkL c' k', x ∈ mkL c k) : MkOk E f nt c' k' := fun x hx => h x (hs x hx)
theorem LpOk.sub {c : IC} {k : List AI} (h : LpOk E f nt c k) {c' : IC} {k' : List AI} (hs : ∀ x ∈ lpL c' k', x ∈ lpL c k) : LpOk E f nt c' k' := fun x hx => h x (hs x hx)

theorem loopK_eq {b : IC} {k : List AI} (hm : MkOk E f nt (.loop b) k) (ho : (IC.loop b).okL = true) (hrs : rsOf E f = rs) : KOk E nt rs (.code b.er :: .inLoop b.er :: k) (loopK f nt b) := by
  intro e t m h
  cases b with
  | pt i live c =>
    obtain ⟨h1, h2, h3⟩ := hm (i, live, .code c.er :: .inLoop (IC.pt i live c).er :: k) (by simp [mkL])
    show interp _ (goK f nt i live e) m = _
    rw [goK_eq h1 h2 h3 hrs h, go_step (k := .code _ :: .inLoop _ :: _) (t := t)]; rfl
  | _ => simp [IC.okL] at ho

theorem go_exit (id : Nat) (k : List AI) (t : List AV) (m : Mem) : go E (mdR rs) (.code (.exit id) :: k) t m = match aexit id k with | some k' => go E (mdR rs) k' t m | none => none := by
  rw [go_step]
  show (match aexit id k with | some k' => go E (mdR rs) k' t m | none => fin E.P (mdR rs) (some (.exit id)) t m) = _
  cases aexit id k with
  | some k' => rfl
  | none => unfold mdR; cases isDf rs <;> rfl
theorem compC_eq (hrs : rsOf E f = rs) : ∀ (c : IC) {k : List AI} {ex : List (Nat × (Ev → CM))} {K : Ev → CM}, MkOk E f nt c k → LpOk E f nt c k → c.okL = true → KOk E nt rs k K → ExOk E nt rs k ex →
    KOk E nt rs (.code c.er :: k) (compC (realO E) E.P f nt rs c ex K)
  | .skip, k, ex, K, hm, hl, ho, hK, hE => fun e t m h => by rw [go_step]; exact hK e t m h
  | .region id ops draw chk anc, k, ex, K, hm, hl, ho, hK, hE => fun e t m h => by
    rw [go_step]
    unfold compC
    cases draw with
    | true => exact dopsC_eq (E := E) (d := real E (Mq E) (Nq E)) ops hK ops chk [] 0 [] [] [] e t m .nil h (fun _ hi => by cases hi)
    | false =>
      show interp _ (match nextOf ops with | some (it, d, os) => _ | none => _) m = (match nextOf ops with | some (it, d, os) => _ | none => _)
      cases nextOf ops with
      | none => exact opsC_eq (E := E) (d := real E (Mq E) (Nq E)) ops hK ops [] e t m h (fun _ hi => by cases hi)
      | some x =>
        obtain ⟨it, dd, os⟩ := x
        refine evK_eq h it (F := fun x => nextR x m fun v m => opsK (run E) E.P ops os [] (aput t dd v) m fun t m => go E (mdR rs) k t m) fun x => ?_
        rw [interp_nxt]
        congr 1
        funext v m
        exact opsC_eq (E := E) (d := real E (Mq E) (Nq E)) ops hK os [] _ _ m (h.aput dd (.d v)) (fun _ hi => by cases hi)
  | .seq a b, k, ex, K, hm, hl, ho, hK, hE => fun e t m h => by
    rw [go_step]
    simp only [IC.okL, Bool.and_eq_true] at ho
    have hb := compC_eq hrs b (hm.sub fun x hx => by simp [mkL, hx]) (hl.sub fun x hx => by simp [lpL, hx]) ho.2 hK hE
    exact compC_eq hrs a (hm.sub fun x hx => by simp [mkL, hx]) (hl.sub fun x hx => by simp [lpL, hx]) ho.1 hb (hE.push fun _ => by simp) e t m h
  | .cond c x y, k, ex, K, hm, hl, ho, hK, hE => fun e t m h => by
    rw [go_step]
    simp only [IC.okL, Bool.and_eq_true] at ho
    have hx := compC_eq hrs x (hm.sub fun z hz => by simp [mkL, hz]) (hl.sub fun z hz => by simp [lpL, hz]) ho.1 hK hE e t m h
    have hy := compC_eq hrs y (hm.sub fun z hz => by simp [mkL, hz]) (hl.sub fun z hz => by simp [lpL, hz]) ho.2 hK hE e t m h
    refine evK_eq h c (F := fun v => condA v (go E (mdR rs) (.code x.er :: k) t m) (go E (mdR rs) (.code y.er :: k) t m)) fun v => ?_
    cases v with
    | c a =>
      cases a with
      | bool b => cases b with
        | true => exact hx
        | false => exact hy
      | _ => rfl
    | d a =>
      simp only [interp_cond, hx, hy]; rfl
  | .block id b, k, ex, K, hm, hl, ho, hK, hE => fun e t m h => by
    rw [go_step]
    exact compC_eq hrs b (k := .inBlock id :: k) hm hl ho (fun e t m h => by rw [go_step]; exact hK e t m h) (hE.block hK id) e t m h
  | .loop b, k, ex, K, hm, hl, ho, hK, hE => fun e t m h => by
    rw [go_step]
    exact loopK_eq hm ho hrs e t m h
  | .scope b, k, ex, K, hm, hl, ho, hK, hE => fun e t m h => by
    rw [go_step]
    exact compC_eq hrs b (k := .inScope b.er :: k) hm hl ho (fun e t m h => by rw [go_step]; exact hK e t m h) (hE.push fun _ => by simp) e t m h
  | .rangeFunc i fo ps a b, k, ex, K, hm, hl, ho, hK, hE => fun e t m h => by
    rw [go_step]
    obtain ⟨h1, h2, h3, h4⟩ := hl (i, (ps, a, b), k) (by simp [lpL])
    refine evK_eq h fo (F := fun fv => rangeK (run E) (mdR rs) fv ⟨.ready, none, t, ps, a, b⟩ m fun j m => go E (mdR rs) (pend j k) t m) fun fv => ?_
    rw [lsK_rel h, ← h.1, range_nth, interp_rng]
    show rangeK (run E) (mdR (rsOf E f)) fv.v (loopOf E f i t) m (fun j m => afterAt E ((4096 * f + i) / 4096) ((4096 * f + i) % 4096) j (spread (Nq E (4096 * f + i)) t) m) = _
    rw [(key_div h3).1, (key_div h3).2, h4, ← h.1, spread_all, hrs]
    have hlo : loopOf E f i t = ⟨.ready, none, t, ps, a, b⟩ := by unfold loopOf; rw [h2]
    rw [hlo]
    congr 1
    funext j m
    show go E (mdR (rsOf E f)) (pend j (kLoop E f i)) t m = _
    rw [hrs, h1]
  | .exit id, k, ex, K, hm, hl, ho, hK, hE => fun e t m h => (hE id e t m h).trans (go_exit id k t m).symm
  | .ret, k, ex, K, hm, hl, ho, hK, hE => fun e t m h => retK_eq h m k
  | .pt i live c, k, ex, K, hm, hl, ho, hK, hE => fun e t m h => by
    obtain ⟨h1, h2, h3⟩ := hm (i, live, .code c.er :: k) (by simp [mkL])
    rw [go_step]
    exact goK_eq h1 h2 h3 hrs h m
  | .other c, k, ex, K, hm, hl, ho, hK, hE => fun e t m h => by
    rw [go_step]
    cases c with
    | label l => exact hK e t m h
    | _ => rfl

theorem marksC_eq (hrs : rsOf E f = rs) : ∀ (c : IC) {k : List AI} {ex : List (Nat × (Ev → CM))} {K : Ev → CM}, MkOk E f nt c k → LpOk E f nt c k → c.okL = true → KOk E nt rs k K → ExOk E nt rs k ex →
    ∀ x ∈ marksC (realO E) E.P f nt rs c ex K, ∃ k', (x.1, x.2.1, k') ∈ mkL c k ∧ KOk E nt rs k' x.2.2
  | .skip, _, _, _, _, _, _, _, _, x, hx | .region .., _, _, _, _, _, _, _, _, x, hx | .exit _, _, _, _, _, _, _, _, _, x, hx | .ret, _, _, _, _, _, _, _, _, x, hx | .rangeFunc .., _, _, _, _, _, _, _, _, x, hx | .other _, _, _, _, _, _, _, _, _, x, hx => by simp [marksC] at hx
  | .pt i live c, k, ex, K, hm, hl, ho, hK, hE, x, hx => by
    simp only [IC.okL, Bool.and_eq_true] at ho
    have hm' : MkOk E f nt c k := hm.sub fun x hx => by simp [mkL, hx]
    simp only [marksC, List.mem_cons] at hx
    rcases hx with rfl | hx
    · exact ⟨.code c.er :: k, by simp [mkL], compC_eq hrs c hm' hl ho.2 hK hE⟩
    · obtain ⟨k', h1, h2⟩ := marksC_eq hrs c hm' hl ho.2 hK hE x hx
      exact ⟨k', by simp [mkL, h1], h2⟩
  | .seq a b, k, ex, K, hm, hl, ho, hK, hE, x, hx => by
    simp only [IC.okL, Bool.and_eq_true] at ho
    have hma : MkOk E f nt a (.code b.er :: k) := hm.sub fun x hx => by simp [mkL, hx]
    have hmb : MkOk E f nt b k := hm.sub fun x hx => by simp [mkL, hx]
    have hla : LpOk E f nt a (.code b.er :: k) := hl.sub fun x hx => by simp [lpL, hx]
    have hlb : LpOk E f nt b k := hl.sub fun x hx => by simp [lpL, hx]
    simp only [marksC, List.mem_append] at hx
    rcases hx with hx | hx
    · obtain ⟨k', h1, h2⟩ := marksC_eq hrs a hma hla ho.1 (compC_eq hrs b hmb hlb ho.2 hK hE) (hE.push fun _ => by simp) x hx
      exact ⟨k', by simp [mkL, h1], h2⟩
    · obtain ⟨k', h1, h2⟩ := marksC_eq hrs b hmb hlb ho.2 hK hE x hx
      exact ⟨k', by simp [mkL, h1], h2⟩
  | .cond _ a b, k, ex, K, hm, hl, ho, hK, hE, x, hx => by
    simp only [IC.okL, Bool.and_eq_true] at ho
    simp only [marksC, List.mem_append] at hx
    rcases hx with hx | hx
    · obtain ⟨k', h1, h2⟩ := marksC_eq hrs a (hm.sub fun x hx => by simp [mkL, hx]) (hl.sub fun x hx => by simp [lpL, hx]) ho.1 hK hE x hx
      exact ⟨k', by simp [mkL, h1], h2⟩
    · obtain ⟨k', h1, h2⟩ := marksC_eq hrs b (hm.sub fun x hx => by simp [mkL, hx]) (hl.sub fun x hx => by simp [lpL, hx]) ho.2 hK hE x hx
      exact ⟨k', by simp [mkL, h1], h2⟩
  | .block id b, k, ex, K, hm, hl, ho, hK, hE, x, hx => marksC_eq hrs b (k := .inBlock id :: k) hm hl ho (fun e t m h => by rw [go_step]; exact hK e t m h) (hE.block hK id) x hx
  | .loop b, k, ex, K, hm, hl, ho, hK, hE, x, hx => by
    have ho' : b.okL = true := by simp only [IC.okL, Bool.and_eq_true] at ho; exact ho.2
    exact marksC_eq hrs b (k := .inLoop b.er :: k) hm hl ho' (fun e t m h => by rw [go_step]; exact loopK_eq hm ho hrs e t m h) (hE.push fun _ => by simp) x hx
  | .scope b, k, ex, K, hm, hl, ho, hK, hE, x, hx => marksC_eq hrs b (k := .inScope b.er :: k) hm hl ho (fun e t m h => by rw [go_step]; exact hK e t m h) (hE.push fun _ => by simp) x hx

theorem loopsC_eq (hrs : rsOf E f = rs) : ∀ (c : IC) {k : List AI} {ex : List (Nat × (Ev → CM))} {K : Ev → CM}, MkOk E f nt c k → LpOk E f nt c k → c.okL = true → KOk E nt rs k K → ExOk E nt rs k ex →
    ∀ x ∈ loopsC (realO E) E.P f nt rs c ex K, ∃ k' p, (x.1, p, k') ∈ lpL c k ∧ KOk E nt rs k' x.2.1 ∧ ExOk E nt rs k' x.2.2
  | .skip, _, _, _, _, _, _, _, _, x, hx | .region .., _, _, _, _, _, _, _, _, x, hx | .exit _, _, _, _, _, _, _, _, _, x, hx | .ret, _, _, _, _, _, _, _, _, x, hx | .other _, _, _, _, _, _, _, _, _, x, hx => by simp [loopsC] at hx
  | .rangeFunc i _ ps a b, k, ex, K, hm, hl, ho, hK, hE, x, hx => by
    simp only [loopsC, List.mem_singleton] at hx
    subst hx
    exact ⟨k, (ps, a, b), by simp [lpL], hK, hE⟩
  | .pt i live c, k, ex, K, hm, hl, ho, hK, hE, x, hx => by
    simp only [IC.okL, Bool.and_eq_true] at ho
    exact loopsC_eq hrs c (hm.sub fun x hx => by simp [mkL, hx]) hl ho.2 hK hE x hx
  | .seq a b, k, ex, K, hm, hl, ho, hK, hE, x, hx => by
    simp only [IC.okL, Bool.and_eq_true] at ho
    have hma : MkOk E f nt a (.code b.er :: k) := hm.sub fun x hx => by simp [mkL, hx]
    have hmb : MkOk E f nt b k := hm.sub fun x hx => by simp [mkL, hx]
    have hla : LpOk E f nt a (.code b.er :: k) := hl.sub fun x hx => by simp [lpL, hx]
    have hlb : LpOk E f nt b k := hl.sub fun x hx => by simp [lpL, hx]
    simp only [loopsC, List.mem_append] at hx
    rcases hx with hx | hx
    · obtain ⟨k', p, h1, h2⟩ := loopsC_eq hrs a hma hla ho.1 (compC_eq hrs b hmb hlb ho.2 hK hE) (hE.push fun _ => by simp) x hx
      exact ⟨k', p, by simp [lpL, h1], h2⟩
    · obtain ⟨k', p, h1, h2⟩ := loopsC_eq hrs b hmb hlb ho.2 hK hE x hx
      exact ⟨k', p, by simp [lpL, h1], h2⟩
  | .cond _ a b, k, ex, K, hm, hl, ho, hK, hE, x, hx => by
    simp only [IC.okL, Bool.and_eq_true] at ho
    simp only [loopsC, List.mem_append] at hx
    rcases hx with hx | hx
    · obtain ⟨k', p, h1, h2⟩ := loopsC_eq hrs a (hm.sub fun x hx => by simp [mkL, hx]) (hl.sub fun x hx => by simp [lpL, hx]) ho.1 hK hE x hx
      exact ⟨k', p, by simp [lpL, h1], h2⟩
    · obtain ⟨k', p, h1, h2⟩ := loopsC_eq hrs b (hm.sub fun x hx => by simp [mkL, hx]) (hl.sub fun x hx => by simp [lpL, hx]) ho.2 hK hE x hx
      exact ⟨k', p, by simp [lpL, h1], h2⟩
  | .block id b, k, ex, K, hm, hl, ho, hK, hE, x, hx => loopsC_eq hrs b (k := .inBlock id :: k) hm hl ho (fun e t m h => by rw [go_step]; exact hK e t m h) (hE.block hK id) x hx
  | .loop b, k, ex, K, hm, hl, ho, hK, hE, x, hx => by
    have ho' : b.okL = true := by simp only [IC.okL, Bool.and_eq_true] at ho; exact ho.2
    exact loopsC_eq hrs b (k := .inLoop b.er :: k) hm hl ho' (fun e t m h => by rw [go_step]; exact loopK_eq hm ho hrs e t m h) (hE.push fun _ => by simp) x hx
  | .scope b, k, ex, K, hm, hl, ho, hK, hE, x, hx => loopsC_eq hrs b (k := .inScope b.er :: k) hm hl ho (fun e t m h => by rw [go_step]; exact hK e t m h) (hE.push fun _ => by simp) x hx

theorem apN_eq {d : Do} : ∀ {n : Nat} {F : List AV → CM} {g : List AV → Mem → R}, (∀ az, az.length = n → ∀ m, g az m = interp d (F az) m) → EqD d (apN n F) g
  | 0, F, g, h => zE fun m => h [] rfl m
  | n + 1, F, g, h => sE fun a => apN_eq fun az ha m => h (a :: az) (by simp [ha]) m

theorem envL_fnd : ∀ (az : List AV) (j i : Nat), (fnd i (envL j az)).v = if j ≤ i then nth az (i - j) else .undef
  | [], j, i => by
    show AV.undef = _
    split
    · exact (nth_ge (by simp)).symm
    · rfl
  | a :: az, j, i => by
    show (fnd i ((j, .d a) :: envL (j + 1) az)).v = _
    rw [fnd_cons]
    by_cases h : j = i
    · subst h; rw [if_pos rfl, if_pos (Nat.le_refl _), Nat.sub_self]; rfl
    · rw [if_neg h, envL_fnd az (j + 1) i]
      by_cases h2 : j ≤ i
      · rw [if_pos h2, if_pos (by omega), show i - j = (i - (j + 1)) + 1 by omega]; rfl
      · rw [if_neg h2, if_neg (by omega)]
theorem nth_undefs (az : List AV) (n i : Nat) : nth (az ++ List.replicate n .undef) i = nth az i := by
  rw [nth_eq, nth_eq, List.getD_eq_getElem?_getD, List.getD_eq_getElem?_getD]
  by_cases h : i < az.length
  · rw [List.getElem?_append_left h]
  · rw [List.getElem?_append_right (by omega), List.getElem?_eq_none (l := az) (by omega), List.getElem?_replicate]
    split <;> rfl
theorem envL_rel {az : List AV} (h : az.length ≤ nt) : Rel nt (envL 0 az) (az ++ List.replicate (nt - az.length) .undef) := by
  refine ⟨by simp; omega, fun i => ?_⟩
  rw [envL_fnd, if_pos (Nat.zero_le _), nth_undefs]; rfl
theorem envV_rel : ∀ (bs : List Bool) (j : Nat) (ts : List AV), ts.length = (liveL j bs).length → ∀ i, (fnd i (envV (liveL j bs) ts)).v = if j ≤ i then nth (spread bs ts) (i - j) else .undef
  | [], j, ts, h, i => by
    show AV.undef = _
    have : nth (spread [] ts) (i - j) = .undef := by cases ts <;> rfl
    rw [this]; split <;> rfl
  | true :: bs, j, [], h, i => by simp [liveL] at h
  | true :: bs, j, v :: ts, h, i => by
    show (fnd i ((j, .d v) :: envV (liveL (j + 1) bs) ts)).v = _
    rw [fnd_cons]
    by_cases hj : j = i
    · subst hj; rw [if_pos rfl, if_pos (Nat.le_refl _), Nat.sub_self]; rfl
    · rw [if_neg hj, envV_rel bs (j + 1) ts (by simpa [liveL] using h) i]
      by_cases h2 : j ≤ i
      · rw [if_pos h2, if_pos (by omega), show i - j = (i - (j + 1)) + 1 by omega]; rfl
      · rw [if_neg h2, if_neg (by omega)]
  | false :: bs, j, ts, h, i => by
    have hu : spread (false :: bs) ts = .undef :: spread bs ts := by cases ts <;> rfl
    show (fnd i (envV (liveL (j + 1) bs) ts)).v = _
    rw [envV_rel bs (j + 1) ts h i, hu]
    by_cases h2 : j + 1 ≤ i
    · rw [if_pos h2, if_pos (by omega), show i - j = (i - (j + 1)) + 1 by omega]; rfl
    · rw [if_neg h2]
      split
      · rw [show i - j = 0 by omega]; rfl
      · rfl
theorem spread_length : ∀ (bs : List Bool) (ts : List AV), (spread bs ts).length = bs.length
  | [], ts => by cases ts <;> rfl
  | true :: bs, v :: ts => by simp [spread, spread_length bs ts]
  | true :: bs, [] => by simp [spread, spread_length bs []]
  | false :: bs, ts => by
    have hu : spread (false :: bs) ts = .undef :: spread bs ts := by cases ts <;> rfl
    rw [hu]; simp [spread_length bs ts]

structure EntOk (E : Env) (f : Nat) (x : Ent) : Prop where
  fn : E.H f = none → isDf (rsOf E f) = false → EqD (real E (Mq E) (Nq E)) x.fn fun az m => run E (.fn f) az m
  gs : ∀ y ∈ x.gs, EqD (real E (Mq E) (Nq E)) y.2 fun ts m => goR E (Mq E) y.1 ts m
  ls : ∀ y ∈ x.ls, EqD (real E (Mq E) (Nq E)) y.2.1 (fun ts m => afR E (Nq E) y.1 none ts m) ∧ EqD (real E (Mq E) (Nq E)) y.2.2.1 (fun ts m => afR E (Nq E) y.1 (some .ret) ts m) ∧
    ∀ z ∈ y.2.2.2, EqD (real E (Mq E) (Nq E)) z.2 fun ts m => afR E (Nq E) y.1 (some (.exit z.1)) ts m

theorem entC_ok {c : AC} {na : Nat} (hB : E.B f = some (rs, nt, c)) (hna : na ≤ nt) (ho : (index c 0 0).okL = true) : EntOk E f (entC (realO E) E.P f nt rs na (index c 0 0)) := by
  have hrs : rsOf E f = rs := by unfold rsOf; rw [hB]
  have hc : codeOf E f = c := by unfold codeOf; rw [hB]
  have hnt : ntOf E f = nt := by unfold ntOf; rw [hB]
  have oks : ∀ (c : IC) (k : List AI), c.okL = true → (∀ x ∈ mkL c k, x.1 < 4096) ∧ ∀ x ∈ lpL c k, x.1 < 4096 := by
    intro c
    induction c with
    | pt i live c ih =>
      intro k ho
      simp only [IC.okL, Bool.and_eq_true] at ho
      refine ⟨fun x hx => ?_, fun x hx => (ih k ho.2).2 x hx⟩
      simp only [mkL, List.mem_cons] at hx
      rcases hx with rfl | hx
      · have := ho.1; rw [bltN] at this; exact of_decide_eq_true this
      · exact (ih k ho.2).1 x hx
    | seq a b iha ihb =>
      intro k ho
      simp only [IC.okL, Bool.and_eq_true] at ho
      refine ⟨fun x hx => ?_, fun x hx => ?_⟩
      · simp only [mkL, List.mem_append] at hx; exact hx.elim ((iha _ ho.1).1 x) ((ihb _ ho.2).1 x)
      · simp only [lpL, List.mem_append] at hx; exact hx.elim ((iha _ ho.1).2 x) ((ihb _ ho.2).2 x)
    | cond _ a b iha ihb =>
      intro k ho
      simp only [IC.okL, Bool.and_eq_true] at ho
      refine ⟨fun x hx => ?_, fun x hx => ?_⟩
      · simp only [mkL, List.mem_append] at hx; exact hx.elim ((iha _ ho.1).1 x) ((ihb _ ho.2).1 x)
      · simp only [lpL, List.mem_append] at hx; exact hx.elim ((iha _ ho.1).2 x) ((ihb _ ho.2).2 x)
    | block id b ih => exact fun k ho => ih (.inBlock id :: k) ho
    | scope b ih => exact fun k ho => ih (.inScope b.er :: k) ho
    | loop b ih =>
      intro k ho
      simp only [IC.okL, Bool.and_eq_true] at ho
      exact ih (.inLoop b.er :: k) ho.2
    | rangeFunc i fo ps a b =>
      intro k ho
      refine ⟨fun x hx => by simp [mkL] at hx, fun x hx => ?_⟩
      simp only [lpL, List.mem_singleton] at hx
      subst hx
      have : Nat.blt i 4096 = true := ho
      rw [bltN] at this; exact of_decide_eq_true this
    | _ => exact fun k _ => ⟨fun x hx => by simp [mkL] at hx, fun x hx => by simp [lpL] at hx⟩
  have hm : MkOk E f nt (index c 0 0) [] := fun x hx => by
    obtain ⟨i, h1, h2⟩ := mkL_index c 0 0 [] x hx
    have h1 : x.1 = i := by omega
    have h4 := (oks _ _ ho).1 x hx
    refine ⟨?_, h4, ?_⟩
    · unfold kAt; rw [hc, ← mksA_marks, List.getElem?_map, h1, h2]; rfl
    · unfold Mq; rw [(key_div h4).1, (key_div h4).2, hc, hnt, h1, h2]; rfl
  have hl : LpOk E f nt (index c 0 0) [] := fun x hx => by
    obtain ⟨i, h1, h2, h3⟩ := lpL_index c 0 0 [] x hx
    have h1 : x.1 = i := by omega
    have h4 := (oks _ _ ho).2 x hx
    refine ⟨?_, ?_, h4, ?_⟩
    · unfold kLoop; rw [hc, h1, h3]; rfl
    · rw [hc, h1]; exact h2
    · unfold Nq; rw [(key_div h4).1, hnt]
  have hK : KOk E nt rs [] fun e => retK (realO E) nt rs e := fun e t m h => retK_nil h m
  have hE : ExOk E nt rs [] [] := fun id e t m h => rfl
  refine ⟨fun hH hd => apN_eq fun az ha m => ?_, fun y hy => ?_, fun y hy => ?_⟩
  · rw [run_body hH hB]
    have := compC_eq hrs _ hm hl ho hK hE _ _ m (envL_rel (az := az) (nt := nt) (by omega))
    rw [index_er] at this
    rw [hrs] at hd
    have hmd : mdR rs = .fn rs := by unfold mdR; rw [hd]
    rw [hmd] at this
    exact this.symm
  · obtain ⟨x, hx, rfl⟩ := List.mem_map.1 hy
    obtain ⟨k', h1, h2⟩ := marksC_eq hrs _ hm hl ho hK hE x hx
    obtain ⟨h3, h4, h5⟩ := hm _ h1
    refine apN_eq fun ts ht m => ?_
    show go E (mdR (rsOf E ((4096 * f + x.1) / 4096))) (kAt E ((4096 * f + x.1) / 4096) ((4096 * f + x.1) % 4096)) (spread (Mq E (4096 * f + x.1)) ts) m = _
    rw [(key_div h4).1, (key_div h4).2, h5, h3, hrs]
    refine (h2 _ _ m ⟨?_, fun i => ?_⟩).symm
    · rw [spread_length, cutL_length]
    · rw [envV_rel _ 0 ts ht i, if_pos (Nat.zero_le _)]; rfl
  · obtain ⟨x, hx, rfl⟩ := List.mem_map.1 hy
    obtain ⟨k', p, h1, h2, h3⟩ := loopsC_eq hrs _ hm hl ho hK hE x hx
    obtain ⟨h4, _, h5, h6⟩ := hl _ h1
    have hrel : ∀ ts : List AV, ts.length = nt → Rel nt (envL 0 ts) ts := fun ts ht => by
      have := envL_rel (az := ts) (nt := nt) (by omega)
      rw [ht, Nat.sub_self, List.replicate_zero, List.append_nil] at this
      exact this
    have haf : ∀ (j : Option Jmp) (ts : List AV) (m : Mem), ts.length = nt → afR E (Nq E) (4096 * f + x.1) j ts m = go E (mdR rs) (pend j k') ts m := fun j ts m ht => by
      show go E (mdR (rsOf E ((4096 * f + x.1) / 4096))) (pend j (kLoop E ((4096 * f + x.1) / 4096) ((4096 * f + x.1) % 4096))) (spread (Nq E (4096 * f + x.1)) ts) m = _
      rw [(key_div h5).1, (key_div h5).2, h6, h4, hrs, ← ht, spread_all]
    refine ⟨apN_eq fun ts ht m => ?_, apN_eq fun ts ht m => ?_, fun z hz => ?_⟩
    · rw [haf none ts m ht]; exact (h2 _ _ m (hrel ts ht)).symm
    · rw [haf (some .ret) ts m ht]; exact (retK_eq (hrel ts ht) m k').symm
    · obtain ⟨y, hy, rfl⟩ := List.mem_map.1 hz
      refine apN_eq fun ts ht m => ?_
      rw [haf (some (.exit y.1)) ts m ht]
      exact (go_exit y.1 k' ts m).trans (h3 y.1 _ _ m (hrel ts ht)).symm
end
end Go.Abs
end
section
namespace Go.Abs
open Go

noncomputable def entX (O : Ops) (P : Program) (f : Nat) (fn : Func) (h : Hint) : Ent :=
  match fn.body with
  | some c => entC O P f fn.ntmps fn.results.toList (fn.params.size + fn.nfree) (index (annot c h) 0 0)
  | none => ⟨fun _ => .fail, [], []⟩
structure Tr (P : Program) (f : Nat) (fn : Func) (h : Hint) where
  x : Ops → Ent
  eq : ∀ O, x O = entX O P f fn h
structure En (P : Program) (B : FuncId → Option (List ResultVar × Nat × AC)) where
  f : Nat
  na : Nat
  rs : List ResultVar
  nt : Nat
  c : AC
  hB : B f = some (rs, nt, c)
  x : Ops → Ent
  eq : ∀ O, x O = entC O P f nt rs na (index c 0 0)
theorem bodyOf_eq {P : Program} {hints : FuncId → Option Hint} {f : Nat} {fn : Func} {h : Hint} {c : Code} (hf : P.funcs[f]? = some fn) (hh : hints f = some h) (hb : fn.body = some c) : bodyOf P hints f = some (fn.results.toList, fn.ntmps, annot c h) := by
  unfold bodyOf
  rw [hh, hf]
  simp only [hb]
def Tr.en {P : Program} {hints : FuncId → Option Hint} {f : Nat} {fn : Func} {h : Hint} {c : Code} (t : Tr P f fn h) (hf : P.funcs[f]? = some fn) (hh : hints f = some h) (hb : fn.body = some c) : En P (bodyOf P hints) :=
  ⟨f, fn.params.size + fn.nfree, fn.results.toList, fn.ntmps, annot c h, bodyOf_eq hf hh hb, t.x, fun O => by rw [t.eq]; unfold entX; rw [hb]⟩
def chkEn {P : Program} {B : FuncId → Option (List ResultVar × Nat × AC)} (e : En P B) : Bool := Nat.ble e.na e.nt && (index e.c 0 0).okL

section
variable {P : Program} {B : FuncId → Option (List ResultVar × Nat × AC)}
noncomputable abbrev EX (P : Program) (B : FuncId → Option (List ResultVar × Nat × AC)) (H : FuncId → Option (List AV → Mem → R)) : Env := ⟨P, B, H⟩
noncomputable abbrev OX (P : Program) (B : FuncId → Option (List ResultVar × Nat × AC)) : Ops := realO (EX P B fun _ => none)
noncomputable def En.t (e : En P B) : Ent := e.x (OX P B)
theorem En.ok (e : En P B) (hc : chkEn e = true) (H : FuncId → Option (List AV → Mem → R)) : EntOk (EX P B H) e.f e.t := by
  unfold chkEn at hc
  rw [Bool.and_eq_true] at hc
  show EntOk _ e.f (e.x (OX P B))
  rw [e.eq]
  exact entC_ok (E := EX P B H) e.hB (Nat.le_of_ble_eq_true hc.1) hc.2

def pickE {α : Type} (id : Nat) (l : List (Nat × α)) : Option α :=
  match l with
  | [] => none
  | (i, D) :: l => match Nat.beq i id with
    | true => some D
    | false => pickE id l
theorem pickE_mem {α : Type} {id : Nat} {D : α} : ∀ {l : List (Nat × α)}, pickE id l = some D → (id, D) ∈ l
  | [], h => by simp [pickE] at h
  | (i, D') :: l, h => by
    unfold pickE at h
    rw [beqN] at h
    by_cases e : i = id
    · rw [decide_eq_true e] at h
      cases h
      rw [e]; exact List.mem_cons_self
    · rw [decide_eq_false e] at h
      exact List.mem_cons_of_mem _ (pickE_mem h)
def pickJ (t : (List AV → CM) × (List AV → CM) × List (Nat × (List AV → CM))) : Option Jmp → Option (List AV → CM)
  | none => some t.1
  | some .ret => some t.2.1
  | some (.exit id) => pickE id t.2.2

noncomputable def getT (t : BT (En P B)) (f : Nat) : Option (En P B) := (t.find f).bind fun e => match Nat.beq e.f f with
  | true => some e
  | false => none
noncomputable def tbOf (t : BT (En P B)) : Tb where
  fn f := (getT t f).bind fun e => match isDf e.rs with
    | true => none
    | false => some e.t.fn
  gor k := (getT t (Nat.div k 4096)).bind fun e => pickE k e.t.gs
  afr k j := (getT t (Nat.div k 4096)).bind fun e => (pickE k e.t.ls).bind fun l => pickJ l j
noncomputable def Tb.less (T : Tb) (l : List Nat) : Tb := { T with fn := fun f => match l.contains f with
  | true => none
  | false => T.fn f }
noncomputable def BT.all {α : Type} (p : α → Bool) (t : BT α) : Bool := BT.rec (motive := fun _ => Bool) true (fun _ v _ _ l r => p v && (l && r)) t
theorem BT.find_all {α : Type} {p : α → Bool} {q : Nat} {v : α} : ∀ {t : BT α}, t.all p = true → t.find q = some v → p v = true
  | .leaf, _, h => by simp [BT.find] at h
  | .node k w l r, ha, h => by
    have hu : (BT.node k w l r).find q = Bool.rec (motive := fun _ => Option α) (Bool.rec (motive := fun _ => Option α) (r.find q) (l.find q) (Nat.ble q k)) (some w) (Nat.beq q k) := rfl
    have ha' : (p w && (l.all p && r.all p)) = true := ha
    rw [Bool.and_eq_true, Bool.and_eq_true] at ha'
    rw [hu] at h
    cases e : Nat.beq q k with
    | true => rw [e] at h; cases h; exact ha'.1
    | false =>
      rw [e] at h
      cases e2 : Nat.ble q k with
      | true => rw [e2] at h; exact BT.find_all ha'.2.1 h
      | false => rw [e2] at h; exact BT.find_all ha'.2.2 h
theorem getT_some {t : BT (En P B)} {f : Nat} {e : En P B} (h : getT t f = some e) : t.find f = some e ∧ e.f = f := by
  unfold getT at h
  obtain ⟨e', h1, h2⟩ := Option.bind_eq_some_iff.1 h
  rw [beqN] at h2
  by_cases hf : e'.f = f
  · rw [decide_eq_true hf] at h2; cases h2; exact ⟨h1, hf⟩
  · rw [decide_eq_false hf] at h2; cases h2
theorem tbOf_ok {t : BT (En P B)} (hc : t.all chkEn = true) {H : FuncId → Option (List AV → Mem → R)} (l : List Nat) (hH : ∀ f, ((tbOf t).less l).fn f ≠ none → H f = none) :
    ((tbOf t).less l).Ok (EX P B H) (Mq (EX P B H)) (Nq (EX P B H)) where
  fn := fun f D h => by
    have h0 := hH f (by rw [h]; exact fun h => by cases h)
    have h1 : (tbOf t).fn f = some D := by
      simp only [Tb.less] at h
      split at h
      · cases h
      · exact h
    obtain ⟨e, h2, h3⟩ := Option.bind_eq_some_iff.1 h1
    obtain ⟨h4, rfl⟩ := getT_some h2
    cases hd : isDf e.rs with
    | true => rw [hd] at h3; cases h3
    | false =>
      rw [hd] at h3; cases h3
      refine ((e.ok (BT.find_all (p := chkEn) hc h4) H).fn h0 ?_).le
      have hB := e.hB
      unfold rsOf
      show isDf (match B e.f with | some (rs, _, _) => rs | none => []) = false
      rw [hB]; exact hd
  gor := fun k D h => by
    obtain ⟨e, h2, h3⟩ := Option.bind_eq_some_iff.1 (show (getT t (Nat.div k 4096)).bind (fun e => pickE k e.t.gs) = some D from h)
    obtain ⟨h4, h5⟩ := getT_some h2
    exact ((e.ok (BT.find_all (p := chkEn) hc h4) H).gs _ (pickE_mem h3)).le
  afr := fun k j D h => by
    obtain ⟨e, h2, h3⟩ := Option.bind_eq_some_iff.1 (show (getT t (Nat.div k 4096)).bind (fun e => (pickE k e.t.ls).bind fun l => pickJ l j) = some D from h)
    obtain ⟨h4, h5⟩ := getT_some h2
    obtain ⟨x, h6, h7⟩ := Option.bind_eq_some_iff.1 h3
    obtain ⟨g1, g2, g3⟩ := (e.ok (BT.find_all (p := chkEn) hc h4) H).ls _ (pickE_mem h6)
    cases j with
    | none => simp only [pickJ, Option.some.injEq] at h7; subst h7; exact g1.le
    | some j =>
      cases j with
      | ret => simp only [pickJ, Option.some.injEq] at h7; subst h7; exact g2.le
      | exit id => exact (g3 _ (pickE_mem (show pickE id x.2.2 = some D from h7))).le
end
end Go.Abs
end
section
namespace Go.Abs
open Go

section
variable {P : Program}

theorem step_defer_op {b : Frame} {a : Act} {k : List Item} {cs : List Frame} {w : World} {ops : Array Oper} {i : Nat} {rest : List Nat} {o : Oper} {c : Call} {d : Deferred} (hr : b.roundOf = none) (ho : ops[i]? = some o)
    (hw : Region.wanted o (yielded ops a.tmps) = true) (hop : o.op = .defer c) (hres : (resolve a.eval c o.type).run P w = .ok d w) :
    step P (lone (b.atR a (.inRegion ops (i :: rest) :: k)) cs w) = .next (lone (b.atR (({ a with defers := d :: a.defers } : Act).put o.dst undef) (.inRegion ops rest :: k)) cs w) := by
  have hg := stepGR_op (P := P) (b := b) (k := k) (cs := cs) (w := w) (rest := rest) ho hw
  rw [hr, Oper.semAt_none] at hg
  have h : (execOp a.eval o).run P w = .ok (.defer d) w := by
    simp only [execOp, hop, Sem.run_bind, hres, Result.andThen_ok, Sem.run_pure]
  have hfin : ({ b.atR a (.inRegion ops (i :: rest) :: k) with defers := d :: a.defers } : Frame).finish undef = b.atR (({ a with defers := d :: a.defers } : Act).put o.dst undef) (.inRegion ops rest :: k) := by
    have := finish_put (b := b) (a := { a with defers := d :: a.defers }) (k := k) (rest := rest) ho undef
    rw [← this]; rfl
  refine step_lone_go ?_
  rw [hg, ← hfin]
  simp [stepG.apply, h, Frame.atR]

noncomputable def preS (call : CallF) (P : Program) : List (List Oper) → List AV → Mem → (List AV → Mem → R) → R
  | [], t, m, K => K t m
  | ops :: rs, t, m, K => opsK call P ops ops [] t m fun t m => preS call P rs t m K
def seqC : List (Nat × List Oper) → Code → Code
  | [], c => c
  | (id, ops) :: rs, c => .seq (.region id ⟨ops⟩ false) (seqC rs c)
theorem pre_sound {call : CallF} (hcall : CallOk P call) : ∀ (regs : List (Nat × List Oper)) {t : List AV} {m : Mem} {K : List AV → Mem → R} {r : AV × Mem}, preS call P (regs.map (·.2)) t m K = some r →
    ∃ t1 m1, K t1 m1 = some r ∧ m.next ≤ m1.next ∧ ∀ (p : Phi) (a : Act) (w : World), MR P p m w → GP P ≤ m.next → Free p m.next m1.next → VRs p t a.tmps.toList → ∀ (b : Frame) (k : List Item) (cs : List Frame) (c : Code),
      ∃ p' a' w', VRs p' t1 a'.tmps.toList ∧ a'.defers = a.defers ∧ Sim P p m w p' m1 w' ∧ Steps P (lone (b.atR a (.code (seqC regs c) :: k)) cs w) (lone (b.atR a' (.code c :: k)) cs w')
  | [], t, m, K, r, h => ⟨t, m, h, Nat.le_refl _, fun p a w hm _ _ ht b k cs c => ⟨p, a, w, ht, rfl, Sim.refl hm, .refl _ _⟩⟩
  | (id, ops) :: rs, t, m, K, r, h => by
    obtain ⟨t1, m1, h1, h2⟩ := opsK_sound hcall ops 0 (fun j => by simp) (show opsK call P ops ops [] t m (fun t m => preS call P (rs.map (·.2)) t m K) = some r from h)
    obtain ⟨t2, m2, h3, h4, h5⟩ := pre_sound hcall rs h1
    refine ⟨t2, m2, h3, Nat.le_trans h2.1 h4, fun p a w hm hG hf ht b k cs c => ?_⟩
    obtain ⟨p1, a1, w1, g1, g2, g3, g4⟩ := h2.2 p a w hm hG (hf.sub (Nat.le_refl _) h4) ht b (.code (seqC rs c) :: k) cs
    obtain ⟨p2, a2, w2, g5, g6, g7, g8⟩ := h5 p1 a1 w1 g3.rel (Nat.le_trans hG g3.next) (hf.step g3) g1 b k cs c
    refine ⟨p2, a2, w2, g5, g6.trans g2, g3.trans g7 hf, .head stepR_seq (.head stepR_region ?_)⟩
    rw [List.range_eq_range']
    exact Steps.trans g4 (.head stepR_region_end g8)
end

structure Dfi where
  f : FuncId
  fn : Func
  regs : List (Nat × List Oper)
  idD : Nat
  o1 : Oper
  o2 : Oper
  c2 : Call
  i : Tmp
  rest : AC

noncomputable def dfH (P : Program) (D : Dfi) (X : List AV → Mem → R) (Y : FuncId → List AV → Mem → Option Mem) (args : List AV) (m : Mem) : R :=
  preS (fun _ _ _ => none) P (D.regs.map (·.2)) (args ++ List.replicate (D.fn.ntmps - args.length) .undef) m fun t1 m1 =>
    (pureOp P D.o1.op t1).bind fun v => match nth (aput t1 D.o1.dst v) D.i with
      | .fn (.func g) first cap => (X (aput t1 D.o1.dst v) m1).bind fun r => match r.1 with
        | .tup ts => (Y g (first ++ cap) r.2).bind fun m3 => (resA P D.fn.results.toList ts m3).bind fun vs => some (tupA vs, m3)
        | _ => none
      | _ => none

structure Dfi.Ok (D : Dfi) (E : Env) : Prop where
  hf : E.P.funcs[D.f]? = some D.fn
  hb : D.fn.body = some (seqC D.regs (.seq (.region D.idD ⟨[D.o1, D.o2]⟩ false) D.rest.erase))
  name : D.fn.name ≠ "runtime.NumGoroutine"
  ok : D.rest.ok E.P = true
  g1 : D.o1.guard = none
  g2 : D.o2.guard = none
  d2 : D.o2.dst = none
  op : D.o2.op = .defer D.c2
  cal : D.c2.callee = .value (.tmp D.i)
  arg : D.c2.args = #[]

theorem goF_of_go {E : Env} {md : Md} {k : List AI} {t : List AV} {m : Mem} {r : AV × Mem} (h : go E md k t m = some r) : ∃ n, goF E (runF E n) md n k t m = some r := by
  unfold go at h
  split at h
  · rename_i hh
    have := hh.choose_spec
    obtain ⟨n, hn⟩ := this
    cases h
    exact ⟨n, hn⟩
  · cases h

theorem dfH_ok {E : Env} (hE : EnvOk E) {D : Dfi} (hD : D.Ok E) {X : List AV → Mem → R} {Y : FuncId → List AV → Mem → Option Mem} (hX : ∀ t m r, X t m = some r → go E .df [.code D.rest] t m = some r)
    (hY : ∀ g az m m3, Y g az m = some m3 → E.H g = none ∧ ∃ r, run E (.fn g) az m = some (r, m3)) {args : List AV} {m : Mem} {r : AV} {m' : Mem}
    (h : dfH E.P D X Y args m = some (r, m')) : FnOk E.P (.fn D.f) args m r m' := by
  unfold dfH at h
  obtain ⟨t1, m1, h1, n1, s1⟩ := pre_sound (P := E.P) (call := fun _ _ _ => none) (fun _ _ _ _ _ h => by cases h) D.regs h
  obtain ⟨v, hv, h2⟩ := Option.bind_eq_some_iff.1 h1
  generalize ht2 : aput t1 D.o1.dst v = t2 at h2
  split at h2
  · rename_i g first cap hclo
    obtain ⟨⟨r2, m2⟩, h3, h4⟩ := Option.bind_eq_some_iff.1 h2
    split at h4
    · rename_i ts hts
      simp only at hts
      subst hts
      obtain ⟨m3, h5, h6⟩ := Option.bind_eq_some_iff.1 h4
      obtain ⟨vs, h7, h8⟩ := Option.bind_eq_some_iff.1 h6
      cases h8
      simp only at h5
      obtain ⟨nX, hgX⟩ := goF_of_go (hX _ _ _ h3)
      have goX := goF_sound hE (runF_sound hE nX) .df nX _ _ _ _ _ (fun x hx => by simp at hx; subst hx; exact hD.ok) hgX
      obtain ⟨hHg, rg, hrun⟩ := hY _ _ _ _ h5
      have hbd : ∃ nY rsg ntg cg, E.B g = some (rsg, ntg, cg) ∧ goF E (runF E nY) (.fn rsg) nY [.code cg] ((first ++ cap) ++ List.replicate (ntg - (first ++ cap).length) .undef) m2 = some (rg, m') := by
        obtain ⟨n, hn⟩ := run_fuel hrun
        cases n with
        | zero => simp [runF] at hn
        | succ n =>
          simp only [runF, hHg] at hn
          split at hn
          · rename_i rsg ntg cg hB; exact ⟨n, rsg, ntg, cg, hB, hn⟩
          · cases hn
      obtain ⟨nY, rsg, ntg, cg, hB, hgY⟩ := hbd
      obtain ⟨fg, y1, y2, y3, y4, y5, y6⟩ := hE.body g hHg _ _ _ hB
      have goY := goF_sound hE (runF_sound hE nY) (.fn rsg) nY _ _ _ _ _ (fun x hx => by simp at hx; subst hx; exact y6) hgY
      refine ⟨Nat.le_trans n1 (Nat.le_trans goX.1 goY.1), fun p w cargs hm hG hf hvs => .inl ⟨D.fn, hD.hf, by rw [hD.hb]; rfl, hD.name, ?_⟩⟩
      intro cs
      let b : Frame := { (default : Frame) with fn := D.f, kind := .normal }
      let a0 : Act := { tmps := ⟨cargs⟩ ++ Array.replicate (D.fn.ntmps - cargs.length) undef, defers := [] }
      have henter : Frame.enter E.P D.f ⟨cargs⟩ .normal = b.atR a0 [.code (seqC D.regs (.seq (.region D.idD ⟨[D.o1, D.o2]⟩ false) D.rest.erase))] := by
        simp [Frame.enter, Frame.atR, hD.hf, hD.hb, b, a0]
        rfl
      have hl := hvs.length
      have hv0 : VRs p (args ++ List.replicate (D.fn.ntmps - args.length) .undef) a0.tmps.toList := by
        rw [← hl]
        simp only [a0, Array.toList_append, Array.toList_replicate]
        exact hvs.append (VRs.replicate _ (by simp [VR]))
      obtain ⟨p1, a1, w1, e1, e2, e3, e4⟩ := s1 p a0 w hm hG (hf.sub (Nat.le_refl _) (Nat.le_trans goX.1 goY.1)) hv0 b [] cs (.seq (.region D.idD ⟨[D.o1, D.o2]⟩ false) D.rest.erase)
      have hf1 := hf.step e3
      have hG1 : GP E.P ≤ m1.next := Nat.le_trans hG e3.next
      obtain ⟨cv, c1, c2⟩ := pure_sound (w := w1) e1 e3.rel.glob hv
      have st1 := step_value (P := E.P) (b := b) (a := a1) (k := [.code D.rest.erase]) (cs := cs) (ops := ⟨[D.o1, D.o2]⟩) (i := 0) (rest := [1]) (o := D.o1) rfl (by simp [Region.wanted, hD.g1]) c1
      have e5 : VRs p1 t2 (a1.put D.o1.dst cv).tmps.toList := by rw [← ht2]; exact e1.aput _ c2
      have hclo2 : VR p1 (.fn (.func g) first cap) ((a1.put D.o1.dst cv).tmps.getD D.i undef) := by
        have := tmp_VR e5 D.i
        rw [← nth_eq, hclo] at this
        exact this
      simp only [VR] at hclo2
      obtain ⟨first', cap', hfn, v1, v2⟩ := hclo2
      have hres : (resolve (a1.put D.o1.dst cv).eval D.c2 D.o2.type).run E.P w1 = .ok { target := .fn (.func g) ⟨cap'⟩, args := ⟨first'⟩ } w1 := by
        unfold resolve
        simp only [hD.cal, hD.arg]
        show (Deferred.ofValue ((a1.put D.o1.dst cv).tmps.getD D.i undef) _).run E.P w1 = _
        rw [hfn]
        simp [Deferred.ofValue, Sem.run_pure]
      have st2 := step_defer_op (P := E.P) (b := b) (a := a1.put D.o1.dst cv) (k := [.code D.rest.erase]) (cs := cs) (w := w1) (ops := ⟨[D.o1, D.o2]⟩) (i := 1) (rest := []) (o := D.o2) rfl rfl (by simp [Region.wanted, hD.g2]) hD.op hres
      rw [hD.d2] at st2
      have hd0 : (a1.put D.o1.dst cv).defers = [] := (put_defers' _ _ _).trans e2
      rw [hd0] at st2
      let b1 : Frame := { b with defers := [{ target := .fn (.func g) ⟨cap'⟩, args := ⟨first'⟩ }] }
      let a2 : Act := { a1.put D.o1.dst cv with defers := [{ target := .fn (.func g) ⟨cap'⟩, args := ⟨first'⟩ }] }
      obtain ⟨ts', p2, w2, fr, k1, k2, k3, k4, k5, k6, k7, k8⟩ := goX.2 p1 a2 w1 b1 cs [] e3.rel hG1 (hf1.sub (Nat.le_refl _) goY.1) e5 ⟨rfl, rfl⟩
      cases k1
      have hf2 := hf1.step k8
      have hG2 : GP E.P ≤ m2.next := Nat.le_trans hG1 k8.next
      have hvg : VRs p2 (first ++ cap) (first' ++ cap') := (v1.mono k8.le).append (v2.mono k8.le)
      have hlg := hvg.length
      have hgn : fg.body.isSome = true := by rw [y2]; rfl
      have hinv : (invoke (.fn (.func g) ⟨cap'⟩) ⟨first'⟩).run E.P w2 = .ok (.enter g ⟨first' ++ cap'⟩) w2 := by
        have hb : fg.body.isNone = false := by rw [y2]; rfl
        have hn2 : (fg.name == "runtime.NumGoroutine") = false := by simpa using y5
        have hap : ((⟨first'⟩ : Array Value) ++ ⟨cap'⟩) = ⟨first' ++ cap'⟩ := by simp
        simp only [invoke, hap, callFunc, Sem.run_bind, run_program, Result.andThen_ok, y1, hn2, hb, Bool.false_eq_true, if_false, Sem.run_pure]
      have st3 := step_defer (P := E.P) (fr := fr) (cs := cs) (w := w2) (ds := []) (by rw [k4]; simp) k5 rfl hinv
      let bg : Frame := { (default : Frame) with fn := g, kind := .deferred }
      let ag : Act := { tmps := ⟨first' ++ cap'⟩ ++ Array.replicate (fg.ntmps - (first' ++ cap').length) undef, defers := [] }
      have hentg : Frame.enter E.P g ⟨first' ++ cap'⟩ .deferred = bg.atR ag [.code cg.erase] := by
        simp [Frame.enter, Frame.atR, y1, y2, bg, ag]
        rfl
      have hvg0 : VRs p2 ((first ++ cap) ++ List.replicate (ntg - (first ++ cap).length) .undef) ag.tmps.toList := by
        rw [← y4, ← hlg]
        simp only [ag, Array.toList_append, Array.toList_replicate]
        exact hvg.append (VRs.replicate _ (by simp [VR]))
      obtain ⟨cvg, p3, w30, D3, fr3, j2, j3, ⟨j6, j4, j5, jr⟩, _, j80, j9, j10⟩ := goY.2 p2 ag w2 bg ({ fr with defers := [] } :: cs) [] k8.rel hG2 hf2 hvg0 ⟨rfl, DOk.nil _ _ _, ⟨fg, y1, y3⟩, rfl⟩
      have j8 := j80.clear j9 fun x hx => (j10 x hx).resolve_left (by simp)
      generalize clearD w30 D3 = w3 at j2 jr j8
      have st4 := step_going_returned (P := E.P) (fr := fr3) (c := { fr with defers := [] }) (cs := cs) (w := w3) (v := cvg) j6 ⟨j4, j5, jr⟩
      obtain ⟨cvr, q1, q2⟩ := results_sound (fn := D.fn) j8.rel (k7.mono j8.le) h7
      have hset : settle ({ fr with defers := [] } : Frame).mode = .returning := by simp [settle, k4]
      have simAll : Sim E.P p m w p3 m' w3 := by
        refine Sim.trans e3 (Sim.trans k8 j8 ?_) ?_
        · exact hf1
        · exact hf
      refine ⟨.returned cvr, w3, { ({ fr with defers := [] } : Frame) with mode := settle ({ fr with defers := [] } : Frame).mode }, ⟨cvr, p3, rfl, q2, simAll⟩, ?_, ?_, ?_⟩
      · rw [henter]
        refine Steps.trans e4 (.head stepR_seq (.head stepR_region ?_))
        show Steps E.P (lone (b.atR a1 (.inRegion ⟨[D.o1, D.o2]⟩ (List.range 2) :: [.code D.rest.erase])) cs w1) _
        refine .head st1 (.head st2 (.head stepR_region_end (Steps.trans k2 (.head st3 ?_))))
        rw [hentg]
        exact Steps.trans j2 (.one st4)
      · exact k3
      · exact ⟨hset, rfl, k6, D.fn, by rw [show ({ ({ fr with defers := [] } : Frame) with mode := settle ({ fr with defers := [] } : Frame).mode } : Frame).fn = fr.fn from rfl, k3]; exact hD.hf, q1⟩
    · cases h4
  · cases h2
end Go.Abs
end
section
namespace Go.Abs
open Go
structure Framed (m m0 m1 m2 : Mem) : Prop where
  next0 : m0.next = m.next
  sub : ∀ b, m0.get b = none ∨ m0.get b = m.get b
  next2 : m2.next = m1.next
  old : ∀ b, b < m.next → m0.get b = none → m2.get b = m.get b
  new : ∀ b, ¬ (b < m.next ∧ m0.get b = none) → m2.get b = m1.get b
section
variable {P : Program} {p q : Phi} {m m0 m1 m2 : Mem} {w w' : World}
theorem Framed.got (fr : Framed m m0 m1 m2) {b : Nat} {v : Blk} (h : m0.get b = some v) : m.get b = some v := by
  rcases fr.sub b with e | e
  · rw [e] at h; cases h
  · rw [← e]; exact h
theorem Framed.has1 (fr : Framed m m0 m1 m2) {b : Nat} (h : (m0.get b).isSome = true) : (m.get b).isSome = true := by
  obtain ⟨v, hv⟩ := Option.isSome_iff_exists.1 h
  rw [fr.got hv]; rfl
theorem Framed.gone (fr : Framed m m0 m1 m2) {b : Nat} (h : m.get b = none) : m0.get b = none := by
  rcases fr.sub b with e | e
  · exact e
  · rw [e]; exact h
theorem Framed.rel (fr : Framed m m0 m1 m2) (hm : MR P p m w) : MR P p m0 w where
  has := fun b v ci h1 h2 => hm.has b v ci (fr.got h1) h2
  inj := fun b ci b2 ci2 h1 h2 h3 h4 => by
    rcases hm.inj b ci b2 ci2 (fr.has1 h1) h2 h3 h4 with e | ⟨e1, e2⟩
    · exact .inl e
    · exact .inr ⟨by rw [fr.next0]; exact e1, fr.gone e2⟩
  bnd := hm.bnd
  glob := hm.glob
theorem Framed.apart (fr : Framed m m0 m1 m2) (hm : MR P p m w) {b : Nat} {ci : CI} (hb : (m.get b).isSome = true) (h0 : m0.get b = none) (hp : p b = some ci) : ∀ b0 ci0, (m0.get b0).isSome = true → p b0 = some ci0 → ci0.c ≠ ci.c := by
  intro b0 ci0 h1 h2 e
  rcases hm.inj b ci b0 ci0 hb hp h2 e.symm with rfl | ⟨_, e2⟩
  · rw [h0] at h1; cases h1
  · rw [fr.gone e2] at h1; cases h1
theorem Framed.key (fr : Framed m m0 m1 m2) (hm : MR P p m w) (s : Sim P p m0 w q m1 w') {b b2 : Nat} {ci ci2 : CI} (hb : b < m.next) (h0 : m0.get b = none) (h1 : (m.get b).isSome = true) (h2 : q b = some ci) (h3 : q b2 = some ci2) (h4 : ci.c = ci2.c) :
    b = b2 ∨ (b2 < m2.next ∧ m2.get b2 = none) := by
  have hp : p b = some ci := by rw [← s.out b (by rw [fr.next0]; omega)]; exact h2
  have hn := s.next
  rw [fr.next0] at hn
  have old : ∀ {b2 ci2}, p b2 = some ci2 → ci.c = ci2.c → b = b2 ∨ (b2 < m2.next ∧ m2.get b2 = none) := fun {b2 ci2} g1 g2 => by
    rcases hm.inj b ci b2 ci2 h1 hp g1 g2 with e | ⟨e1, e2⟩
    · exact .inl e
    · exact .inr ⟨by rw [fr.next2]; omega, by rw [fr.old b2 e1 (fr.gone e2)]; exact e2⟩
  by_cases hx : m.next ≤ b2 ∧ b2 < m1.next
  · rcases s.fresh b2 ci2 (by rw [fr.next0]; exact hx.1) hx.2 h3 with e | ⟨b0, ci0, g1, g2, g3⟩
    · have := hm.bnd b ci hp; omega
    · exact absurd (g3.trans h4.symm) (fr.apart hm h1 h0 hp b0 ci0 g1 g2)
  · exact old (by rw [← s.out b2 (by rw [fr.next0]; exact hx)]; exact h3) h4
theorem Framed.sim (fr : Framed m m0 m1 m2) (hm : MR P p m w) (s : Sim P p m0 w q m1 w') : Sim P p m w q m2 w' := by
  have hn := s.next
  rw [fr.next0] at hn
  have keep : ∀ {b ci}, (m.get b).isSome = true → m0.get b = none → p b = some ci → w'.heap[ci.c]? = w.heap[ci.c]? := fun {b ci} h1 h0 hp =>
    s.keepC ci.c (hm.bnd b ci hp) (fr.apart hm h1 h0 hp)
  exact {
    le := s.le
    out := fun b hb => s.out b (by rw [fr.next0, ← fr.next2]; exact hb)
    next := by rw [fr.next2]; exact hn
    rel := {
      has := fun b v ci h1 h2 => by
        by_cases hb : b < m.next ∧ m0.get b = none
        · rw [fr.old b hb.1 hb.2] at h1
          have hp : p b = some ci := by rw [← s.out b (by rw [fr.next0]; omega)]; exact h2
          obtain ⟨o, h3, h4⟩ := hm.has b v ci h1 hp
          exact ⟨o, by rw [keep (by rw [h1]; rfl) hb.2 hp]; exact h3, h4.mono s.le⟩
        · rw [fr.new b hb] at h1; exact s.rel.has b v ci h1 h2
      inj := fun b ci b2 ci2 h1 h2 h3 h4 => by
        by_cases hb : b < m.next ∧ m0.get b = none
        · rw [fr.old b hb.1 hb.2] at h1
          exact fr.key hm s hb.1 hb.2 h1 h2 h3 h4
        · rw [fr.new b hb] at h1
          rcases s.rel.inj b ci b2 ci2 h1 h2 h3 h4 with e | ⟨e1, e2⟩
          · exact .inl e
          · by_cases hb2 : b2 < m.next ∧ m0.get b2 = none
            · cases hg : m.get b2 with
              | none => exact .inr ⟨by rw [fr.next2]; exact e1, by rw [fr.old b2 hb2.1 hb2.2]; exact hg⟩
              | some v =>
                rcases fr.key hm s hb2.1 hb2.2 (by rw [hg]; rfl) h3 h2 h4.symm with e | ⟨_, e⟩
                · exact .inl e.symm
                · rw [fr.new b hb] at e; rw [e] at h1; cases h1
            · exact .inr ⟨by rw [fr.next2]; exact e1, by rw [fr.new b2 hb2]; exact e2⟩
      bnd := s.rel.bnd
      glob := s.rel.glob }
    keepA := fun b h1 h2 => by
      by_cases hb : b < m.next ∧ m0.get b = none
      · exact fr.old b h1 hb.2
      · rw [fr.new b hb, s.keepA b (by rw [fr.next0]; exact h1) h2]
        rcases fr.sub b with e | e
        · exact absurd ⟨h1, e⟩ hb
        · exact e
    dead := fun b h1 h2 => by rw [fr.old b h1 (fr.gone h2)]; exact h2
    keepC := fun c hc hk => s.keepC c hc fun b ci h1 h2 => hk b ci (fr.has1 h1) h2
    fresh := fun b ci h1 h2 h3 => by
      rcases s.fresh b ci (by rw [fr.next0]; exact h1) (by rw [← fr.next2]; exact h2) h3 with e | ⟨b0, ci0, g1, g2, g3⟩
      · exact .inl e
      · exact .inr ⟨b0, ci0, fr.has1 g1, g2, g3⟩
    ro := fun b cs ci h1 h2 => by
      by_cases hb : b < m.next ∧ m0.get b = none
      · exact ⟨by rw [fr.old b hb.1 hb.2]; exact h1, keep (by rw [h1]; rfl) hb.2 h2⟩
      · have h0 : m0.get b = some (.cells cs true) := by
          rcases fr.sub b with e | e
          · exact absurd ⟨Mem.get_lt h1, e⟩ hb
          · rw [e]; exact h1
        rw [fr.new b hb]
        exact s.ro b cs ci h0 h2
    size := s.size
    os := s.os
    output := s.output
    tape := s.tape }
theorem FnOk.frame {f : FuncId} {args : List AV} {r : AV} (h : FnOk P (.fn f) args m0 r m1) (fr : Framed m m0 m1 m2) : FnOk P (.fn f) args m r m2 := by
  refine ⟨by rw [fr.next2, ← fr.next0]; exact h.1, fun p w cargs hm hG hf hv => ?_⟩
  rcases h.2 p w cargs (fr.rel hm) (by rw [fr.next0]; exact hG) (by rw [fr.next0, ← fr.next2]; exact hf) hv with ⟨fn, h1, h2, h3, h4⟩ | ⟨cv, w', q, h1, h2, h3⟩
  · refine .inl ⟨fn, h1, h2, h3, h4.mono ?_⟩
    rintro e w' ⟨cv, q, rfl, h5, h6⟩
    exact ⟨cv, q, rfl, h5, fr.sim hm h6⟩
  · exact .inr ⟨cv, w', q, h1, h2, fr.sim hm h3⟩
end
noncomputable def putsM (g : Nat → Option Blk) (l : List Nat) (m : Mem) : Mem := List.rec (motive := fun _ => Mem → Mem) (fun m => m) (fun b _ ih m => ih (m.put b (g b))) l m
theorem putsM_get (g : Nat → Option Blk) : ∀ (l : List Nat) (m : Mem), (putsM g l m).next = m.next ∧ ∀ c, (putsM g l m).get c = if c ∈ l ∧ c < m.next then g c else m.get c
  | [], m => ⟨rfl, fun c => by simp [putsM]⟩
  | b :: l, m => by
    have e : putsM g (b :: l) m = putsM g l (m.put b (g b)) := rfl
    obtain ⟨h1, h2⟩ := putsM_get g l (m.put b (g b))
    rw [e]
    refine ⟨h1, fun c => ?_⟩
    rw [h2, Mem.get_put, Mem.next_put]
    by_cases h : c ∈ l ∧ c < m.next
    · rw [if_pos h, if_pos ⟨List.mem_cons_of_mem _ h.1, h.2⟩]
    · rw [if_neg h]
      by_cases hc : c = b
      · subst hc
        by_cases hn : c < m.next
        · rw [if_pos ⟨rfl, hn⟩, if_pos ⟨List.mem_cons_self, hn⟩]
        · rw [if_neg (fun h => hn h.2), if_neg (fun h => hn h.2)]
      · rw [if_neg (fun h => hc h.1), if_neg (fun h' => by rcases List.mem_cons.1 h'.1 with e | e; exact hc e; exact h ⟨e, h'.2⟩)]
noncomputable def localH (X : List AV → Mem → R) (S : List AV → Mem → List Nat) (args : List AV) (m : Mem) : R :=
  (X args (putsM m.get (S args m) ⟨m.next, .leaf⟩)).bind fun r => if Nat.ble m.next r.2.next then some (r.1, putsM (fun b => Option.rec (motive := fun _ => Option Blk) (if Nat.ble m.next b then r.2.get b else none) (fun _ => r.2.get b) (m.get b)) (S args m ++ List.range' m.next (r.2.next - m.next)) ⟨r.2.next, m.tab⟩) else none
theorem localH_ok {P : Program} {f : FuncId} {X : List AV → Mem → R} {S : List AV → Mem → List Nat} (hX : ∀ args m r m', X args m = some (r, m') → FnOk P (.fn f) args m r m') : ∀ args m r m', localH X S args m = some (r, m') → FnOk P (.fn f) args m r m' := by
  intro args m r m' h
  unfold localH at h
  obtain ⟨⟨r1, m1⟩, h1, h⟩ := Option.bind_eq_some_iff.1 h
  split at h
  · rename_i hle
    have hle := Nat.le_of_ble_eq_true hle
    cases h
    refine (hX _ _ _ _ h1).frame ?_
    obtain ⟨k1, k2⟩ := putsM_get m.get (S args m) ⟨m.next, .leaf⟩
    obtain ⟨j1, j2⟩ := putsM_get (fun b => Option.rec (motive := fun _ => Option Blk) (if Nat.ble m.next b then m1.get b else none) (fun _ => m1.get b) (m.get b)) (S args m ++ List.range' m.next (m1.next - m.next)) ⟨m1.next, m.tab⟩
    have kl : ∀ b, (⟨m.next, .leaf⟩ : Mem).get b = none := fun b => by rw [Mem.get_def]; split <;> rfl
    have hm : ∀ b, b < m.next → (⟨m1.next, m.tab⟩ : Mem).get b = m.get b := fun b hb => by rw [Mem.get_def, Mem.get_def, if_pos hb]; rw [if_pos (show b < m1.next by simp only at hle; omega)]
    refine ⟨k1, fun b => ?_, j1, fun b hb h0 => ?_, fun b hb => ?_⟩
    · rw [k2, kl]
      split
      · exact .inr rfl
      · exact .inl rfl
    · rw [k2, kl] at h0
      rw [j2]
      have hg : m.get b = none ∨ b ∉ S args m := by
        by_cases hs : b ∈ S args m
        · rw [if_pos ⟨hs, hb⟩] at h0; exact .inl h0
        · exact .inr hs
      rcases hg with hg | hg
      · split
        · simp only [hg]
          rw [if_neg]
          intro e; have := Nat.le_of_ble_eq_true e; omega
        · exact hm b hb
      · rw [if_neg]
        · exact hm b hb
        · rintro ⟨e, _⟩
          rcases List.mem_append.1 e with e | e
          · exact hg e
          · have := (List.mem_range'_1.1 e).1; omega
    · rw [j2]
      by_cases hlt : b < m.next
      · have h0 : (putsM m.get (S args m) ⟨m.next, .leaf⟩).get b ≠ none := fun e => hb ⟨hlt, e⟩
        rw [k2, kl] at h0
        have hs : b ∈ S args m := by
          by_cases hs : b ∈ S args m
          · exact hs
          · rw [if_neg (fun h => hs h.1)] at h0; exact absurd rfl h0
        rw [if_pos ⟨hs, hlt⟩] at h0
        rw [if_pos ⟨List.mem_append_left _ hs, by show b < m1.next; simp only at hle; omega⟩]
        cases e : m.get b with
        | none => exact absurd e h0
        | some _ => rfl
      · by_cases h2 : b < m1.next
        · rw [if_pos ⟨List.mem_append_right _ (List.mem_range'_1.2 ⟨by omega, by omega⟩), h2⟩]
          rw [Mem.get_ge (m := m) (by omega)]
          simp only
          rw [if_pos (Nat.ble_eq_true_of_le (by omega))]
        · rw [if_neg (fun h => h2 h.2), Mem.get_ge (by simp only; omega), Mem.get_ge (by omega)]
  · cases h
end Go.Abs
end
section
namespace Go.Abs
open Go
noncomputable def nearS (args : List AV) (m : Mem) : List Nat :=
  List.rec (motive := fun _ => List Nat) [] (fun v _ ih => match v with
    | .ptr (some a) => a.b :: (match m.get a.b with
      | some (.cells cs _) => List.rec (motive := fun _ => List Nat) ih (fun c _ ih => match c with
        | .map (some r) => r :: ih
        | _ => ih) cs
      | _ => ih)
    | .map (some r) => r :: ih
    | _ => ih) args
noncomputable def hooksL (E : Env) (T : Tb) (n : Nat) (S : List FuncId) : FuncId → Option (List AV → Mem → R) := fun f => if S.contains f then some (localH (fun az m => (XD E T n).call (.fn f) az m) nearS) else E.H f
theorem hooksL_ok {E : Env} (hE : EnvOk E) {T : Tb} {M N : Nat → List Bool} (ok : T.Ok E M N) (n : Nat) (S : List FuncId) : EnvOk { E with H := hooksL E T n S } where
  mixed := hE.mixed
  body := fun f hn => hE.body f (by
    simp only [hooksL] at hn
    split at hn
    · cases hn
    · exact hn)
  hook := fun f h e args m r m' hr => by
    simp only [hooksL] at e
    split at e
    · cases e
      exact localH_ok (fun args m r m' h => run_sound hE (.fn f) args m r m' (run_of_X ok n h)) args m r m' hr
    · exact hE.hook f h e args m r m' hr
end Go.Abs
end
section
namespace Go.Abs
open Go

def hookAt (f : FuncId) (h : List AV → Mem → R) (H : FuncId → Option (List AV → Mem → R)) : FuncId → Option (List AV → Mem → R) := fun x => match Nat.beq x f with
  | true => some h
  | false => H x
def bodyAt (f : FuncId) (b : List ResultVar × Nat × AC) (B : FuncId → Option (List ResultVar × Nat × AC)) : FuncId → Option (List ResultVar × Nat × AC) := fun x => match Nat.beq x f with
  | true => some b
  | false => B x
theorem hookAt_same (f : FuncId) (h : List AV → Mem → R) (H : FuncId → Option (List AV → Mem → R)) : hookAt f h H f = some h := by unfold hookAt; rw [Nat.beq_refl]
theorem hookAt_other {f x : FuncId} (hx : x ≠ f) (h : List AV → Mem → R) (H : FuncId → Option (List AV → Mem → R)) : hookAt f h H x = H x := by unfold hookAt; rw [beqN, decide_eq_false hx]
theorem bodyAt_same (f : FuncId) (b : List ResultVar × Nat × AC) (B : FuncId → Option (List ResultVar × Nat × AC)) : bodyAt f b B f = some b := by unfold bodyAt; rw [Nat.beq_refl]
theorem bodyAt_other {f x : FuncId} (hx : x ≠ f) (b : List ResultVar × Nat × AC) (B : FuncId → Option (List ResultVar × Nat × AC)) : bodyAt f b B x = B x := by unfold bodyAt; rw [beqN, decide_eq_false hx]

theorem EnvOk.bodyAt {E : Env} (hE : EnvOk E) (f : FuncId) (b : List ResultVar × Nat × AC) {h : List AV → Mem → R} (hh : ∀ args m r m', h args m = some (r, m') → FnOk E.P (.fn f) args m r m') : EnvOk ⟨E.P, Abs.bodyAt f b E.B, hookAt f h E.H⟩ where
  mixed := hE.mixed
  body := fun x hx rs nt c hB => by
    by_cases e : x = f
    · subst e
      have := hookAt_same x h E.H
      rw [show hookAt x h E.H x = none from hx] at this; cases this
    · exact hE.body x ((hookAt_other e h E.H).symm.trans hx) rs nt c ((bodyAt_other e b E.B).symm.trans hB)
  hook := fun x g hx => by
    by_cases e : x = f
    · subst e
      have := hookAt_same x h E.H
      rw [show hookAt x h E.H x = some g from hx] at this
      cases this
      exact hh
    · exact hE.hook x g ((hookAt_other e h E.H).symm.trans hx)
theorem EnvOk.hookAt {E : Env} (hE : EnvOk E) (f : FuncId) (hf : E.H f ≠ none) {h : List AV → Mem → R} (hh : ∀ args m r m', h args m = some (r, m') → FnOk E.P (.fn f) args m r m') : EnvOk { E with H := Abs.hookAt f h E.H } where
  mixed := hE.mixed
  body := fun x hx rs nt c hB => by
    by_cases e : x = f
    · subst e
      have := hookAt_same x h E.H
      rw [show Abs.hookAt x h E.H x = none from hx] at this; cases this
    · exact hE.body x ((hookAt_other e h E.H).symm.trans hx) rs nt c hB
  hook := fun x g hx => by
    by_cases e : x = f
    · subst e
      have := hookAt_same x h E.H
      rw [show Abs.hookAt x h E.H x = some g from hx] at this
      cases this
      exact hh
    · exact hE.hook x g ((hookAt_other e h E.H).symm.trans hx)

def peelC : Code → Option (List (Nat × List Oper) × Nat × Oper × Oper × Code)
  | .seq (.region id ops false) c => match ops.toList with
    | [o1, o2] => match o2.op with
      | .defer _ => some ([], id, o1, o2, c)
      | _ => (peelC c).map fun x => ((id, [o1, o2]) :: x.1, x.2)
    | l => (peelC c).map fun x => ((id, l) :: x.1, x.2)
  | _ => none
def sndN : Nat → Hint → Hint
  | 0, h => h
  | n + 1, h => sndN n h.rest.snd
def mkD (f : FuncId) (fn : Func) (h : Hint) (live : List Bool) : Option Dfi :=
  match fn.body with
  | some c => match peelC c with
    | some (regs, id, o1, o2, rest) => match o2.op with
      | .defer c2 => match c2.callee with
        | .value (.tmp i) => some ⟨f, fn, regs, id, o1, o2, c2, i, .pt live (annot rest (sndN (regs.length + 1) h))⟩
        | _ => none
      | _ => none
    | none => none
  | none => none
abbrev dfMark : List ResultVar := [.cell 0 0, .cell 0 0, .cell 0 0]

noncomputable def dfX (E : Env) (T : Tb) (n f nt : Nat) (live : List Bool) (t : List AV) (m : Mem) : R :=
  match Nat.beq t.length nt with
  | true => (XD E T n).gor (4096 * f) ((liveL 0 (cutL nt live)).map (nth t)) m
  | false => none
theorem dfX_ok {E : Env} {T : Tb} (ok : T.Ok E (Mq E) (Nq E)) (n : Nat) {f nt : Nat} {live : List Bool} {c : AC} (hB : E.B f = some (dfMark, nt, .pt live c)) (t : List AV) (m : Mem) (r : AV × Mem) (h : dfX E T n f nt live t m = some r) : go E .df [.code (.pt live c)] t m = some r := by
  unfold dfX at h
  rw [beqN] at h
  by_cases hl : t.length = nt
  · rw [decide_eq_true hl] at h
    have h1 := (XD_le ok n).gor (4096 * f) _ m r h
    have hrs : rsOf E f = dfMark := by unfold rsOf; rw [hB]
    have hc : codeOf E f = .pt live c := by unfold codeOf; rw [hB]
    have hn : ntOf E f = nt := by unfold ntOf; rw [hB]
    have hk := key_div (f := f) (i := 0) (by omega)
    have h2 : goR E (Mq E) (4096 * f) ((liveL 0 (cutL nt live)).map (nth t)) m = go E .df [.code c] (mask live t) m := by
      show go E (mdR (rsOf E ((4096 * f + 0) / 4096))) (kAt E ((4096 * f + 0) / 4096) ((4096 * f + 0) % 4096)) (spread (Mq E (4096 * f + 0)) _) m = _
      unfold Mq
      rw [hk.1, hk.2, hrs, hc, hn]
      unfold kAt
      rw [hc]
      show go E .df [.code c] (spread (cutL nt live) _) m = _
      rw [spread_live t (cutL nt live) 0 (by rw [cutL_length, hl]; omega), List.drop_zero, ← hl, mask_cut]
    rw [go_step]
    exact h2.symm.trans h1
  · rw [decide_eq_false hl] at h; cases h
noncomputable def dfY (E : Env) (T : Tb) (n : Nat) (g : FuncId) (az : List AV) (m : Mem) : Option Mem :=
  match E.H g with
  | some _ => none
  | none => ((XD E T n).call (.fn g) az m).map (·.2)
theorem dfY_ok {E : Env} {T : Tb} (ok : T.Ok E (Mq E) (Nq E)) (n : Nat) (g : FuncId) (az : List AV) (m m3 : Mem) (h : dfY E T n g az m = some m3) : E.H g = none ∧ ∃ r, run E (.fn g) az m = some (r, m3) := by
  unfold dfY at h
  split at h
  · cases h
  · rename_i hH
    obtain ⟨⟨r, m'⟩, h1, h2⟩ := Option.map_eq_some_iff.1 h
    cases h2
    exact ⟨hH, r, run_of_X ok n h1⟩
def Tr.enB {P : Program} {B : FuncId → Option (List ResultVar × Nat × AC)} {f : Nat} {fn : Func} {h : Hint} {c : Code} (t : Tr P f fn h) (hB : B f = some (fn.results.toList, fn.ntmps, annot c h)) (hb : fn.body = some c) : En P B :=
  ⟨f, fn.params.size + fn.nfree, fn.results.toList, fn.ntmps, annot c h, hB, t.x, fun O => by rw [t.eq]; unfold entX; rw [hb]⟩
structure TrD (P : Program) (D : Dfi) where
  x : Ops → Ent
  eq : ∀ O, x O = entC O P D.f D.fn.ntmps dfMark 0 (index D.rest 0 0)
def TrD.en {P : Program} {D : Dfi} (t : TrD P D) (B : FuncId → Option (List ResultVar × Nat × AC)) : En P (bodyAt D.f (dfMark, D.fn.ntmps, D.rest) B) := ⟨D.f, 0, dfMark, D.fn.ntmps, D.rest, bodyAt_same _ _ _, t.x, t.eq⟩
end Go.Abs
end
section
namespace Go.Proofs.YtolmealocdgdhaaGreat.U
open Go Go.Abs Go.Proofs.YtolmealocdgdhaaGreat
set_option maxRecDepth 20000
set_option maxHeartbeats 4000000
noncomputable def t2 : Tr Tryz.prog 2 Tryz.f2 hint2 := ⟨_, fun O => by conv => rhs; reduce⟩
noncomputable def t3 : Tr Tryz.prog 3 Tryz.f3 hint3 := ⟨_, fun O => by conv => rhs; reduce⟩
noncomputable def t4 : Tr Tryz.prog 4 Tryz.f4 hint4 := ⟨_, fun O => by conv => rhs; reduce⟩
noncomputable def t5 : Tr Tryz.prog 5 Tryz.f5 hint5 := ⟨_, fun O => by conv => rhs; reduce⟩
noncomputable def t6 : Tr Tryz.prog 6 Tryz.f6 hint6 := ⟨_, fun O => by conv => rhs; reduce⟩
noncomputable def t7 : Tr Tryz.prog 7 Tryz.f7 hint7 := ⟨_, fun O => by conv => rhs; reduce⟩
noncomputable def t8 : Tr Tryz.prog 8 Tryz.f8 hint8 := ⟨_, fun O => by conv => rhs; reduce⟩
noncomputable def t9 : Tr Tryz.prog 9 Tryz.f9 hint9 := ⟨_, fun O => by conv => rhs; reduce⟩
noncomputable def t10 : Tr Tryz.prog 10 Tryz.f10 hint10 := ⟨_, fun O => by conv => rhs; reduce⟩
noncomputable def t11 : Tr Tryz.prog 11 Tryz.f11 hint11 := ⟨_, fun O => by conv => rhs; reduce⟩
noncomputable def t12 : Tr Tryz.prog 12 Tryz.f12 hint12 := ⟨_, fun O => by conv => rhs; reduce⟩
noncomputable def t13 : Tr Tryz.prog 13 Tryz.f13 hint13 := ⟨_, fun O => by conv => rhs; reduce⟩
noncomputable def t14 : Tr Tryz.prog 14 Tryz.f14 hint14 := ⟨_, fun O => by conv => rhs; reduce⟩
noncomputable def t15 : Tr Tryz.prog 15 Tryz.f15 hint15 := ⟨_, fun O => by conv => rhs; reduce⟩
noncomputable def t16 : Tr Tryz.prog 16 Tryz.f16 hint16 := ⟨_, fun O => by conv => rhs; reduce⟩
noncomputable def t17 : Tr Tryz.prog 17 Tryz.f17 hint17 := ⟨_, fun O => by conv => rhs; reduce⟩
noncomputable def t18 : Tr Tryz.prog 18 Tryz.f18 hint18 := ⟨_, fun O => by conv => rhs; reduce⟩
noncomputable def t19 : Tr Tryz.prog 19 Tryz.f19 hint19 := ⟨_, fun O => by conv => rhs; reduce⟩
noncomputable def t20 : Tr Tryz.prog 20 Tryz.f20 hint20 := ⟨_, fun O => by conv => rhs; reduce⟩
noncomputable def t21 : Tr Tryz.prog 21 Tryz.f21 hint21 := ⟨_, fun O => by conv => rhs; reduce⟩
noncomputable def t22 : Tr Tryz.prog 22 Tryz.f22 hint22 := ⟨_, fun O => by conv => rhs; reduce⟩
noncomputable def t23 : Tr Tryz.prog 23 Tryz.f23 hint23 := ⟨_, fun O => by conv => rhs; reduce⟩
noncomputable def t24 : Tr Tryz.prog 24 Tryz.f24 hint24 := ⟨_, fun O => by conv => rhs; reduce⟩
noncomputable def t25 : Tr Tryz.prog 25 Tryz.f25 hint25 := ⟨_, fun O => by conv => rhs; reduce⟩
noncomputable def t26 : Tr Tryz.prog 26 Tryz.f26 hint26 := ⟨_, fun O => by conv => rhs; reduce⟩
noncomputable def t27 : Tr Tryz.prog 27 Tryz.f27 hint27 := ⟨_, fun O => by conv => rhs; reduce⟩
noncomputable def t28 : Tr Tryz.prog 28 Tryz.f28 hint28 := ⟨_, fun O => by conv => rhs; reduce⟩
noncomputable def t29 : Tr Tryz.prog 29 Tryz.f29 hint29 := ⟨_, fun O => by conv => rhs; reduce⟩
noncomputable def t30 : Tr Tryz.prog 30 Tryz.f30 hint30 := ⟨_, fun O => by conv => rhs; reduce⟩
noncomputable def t31 : Tr Tryz.prog 31 Tryz.f31 hint31 := ⟨_, fun O => by conv => rhs; reduce⟩
noncomputable def t32 : Tr Tryz.prog 32 Tryz.f32 hint32 := ⟨_, fun O => by conv => rhs; reduce⟩
noncomputable def t33 : Tr Tryz.prog 33 Tryz.f33 hint33 := ⟨_, fun O => by conv => rhs; reduce⟩
noncomputable def t34 : Tr Tryz.prog 34 Tryz.f34 hint34 := ⟨_, fun O => by conv => rhs; reduce⟩
noncomputable def t35 : Tr Tryz.prog 35 Tryz.f35 hint35 := ⟨_, fun O => by conv => rhs; reduce⟩
noncomputable def t36 : Tr Tryz.prog 36 Tryz.f36 hint36 := ⟨_, fun O => by conv => rhs; reduce⟩
noncomputable def t37 : Tr Tryz.prog 37 Tryz.f37 hint37 := ⟨_, fun O => by conv => rhs; reduce⟩
noncomputable def t38 : Tr Tryz.prog 38 Tryz.f38 hint38 := ⟨_, fun O => by conv => rhs; reduce⟩
noncomputable def t39 : Tr Tryz.prog 39 Tryz.f39 hint39 := ⟨_, fun O => by conv => rhs; reduce⟩
noncomputable def t40 : Tr Tryz.prog 40 Tryz.f40 hint40 := ⟨_, fun O => by conv => rhs; reduce⟩
noncomputable def t41 : Tr Tryz.prog 41 Tryz.f41 hint41 := ⟨_, fun O => by conv => rhs; reduce⟩
noncomputable def t42 : Tr Tryz.prog 42 Tryz.f42 hint42 := ⟨_, fun O => by conv => rhs; reduce⟩
noncomputable def t43 : Tr Tryz.prog 43 Tryz.f43 hint43 := ⟨_, fun O => by conv => rhs; reduce⟩
noncomputable def t44 : Tr Tryz.prog 44 Tryz.f44 hint44 := ⟨_, fun O => by conv => rhs; reduce⟩
noncomputable def t45 : Tr Tryz.prog 45 Tryz.f45 hint45 := ⟨_, fun O => by conv => rhs; reduce⟩
noncomputable def t46 : Tr Tryz.prog 46 Tryz.f46 hint46 := ⟨_, fun O => by conv => rhs; reduce⟩
noncomputable def t47 : Tr Tryz.prog 47 Tryz.f47 hint47 := ⟨_, fun O => by conv => rhs; reduce⟩
noncomputable def t48 : Tr Tryz.prog 48 Tryz.f48 hint48 := ⟨_, fun O => by conv => rhs; reduce⟩
noncomputable def t49 : Tr Tryz.prog 49 Tryz.f49 hint49 := ⟨_, fun O => by conv => rhs; reduce⟩
noncomputable def t50 : Tr Tryz.prog 50 Tryz.f50 hint50 := ⟨_, fun O => by conv => rhs; reduce⟩
noncomputable def t51 : Tr Tryz.prog 51 Tryz.f51 hint51 := ⟨_, fun O => by conv => rhs; reduce⟩
noncomputable def t52 : Tr Tryz.prog 52 Tryz.f52 hint52 := ⟨_, fun O => by conv => rhs; reduce⟩
noncomputable def t53 : Tr Tryz.prog 53 Tryz.f53 hint53 := ⟨_, fun O => by conv => rhs; reduce⟩
noncomputable def t54 : Tr Tryz.prog 54 Tryz.f54 hint54 := ⟨_, fun O => by conv => rhs; reduce⟩
noncomputable def t55 : Tr Tryz.prog 55 Tryz.f55 hint55 := ⟨_, fun O => by conv => rhs; reduce⟩
noncomputable def t56 : Tr Tryz.prog 56 Tryz.f56 hint56 := ⟨_, fun O => by conv => rhs; reduce⟩
noncomputable def t57 : Tr Tryz.prog 57 Tryz.f57 hint57 := ⟨_, fun O => by conv => rhs; reduce⟩
noncomputable def t58 : Tr Tryz.prog 58 Tryz.f58 hint58 := ⟨_, fun O => by conv => rhs; reduce⟩
noncomputable def t59 : Tr Tryz.prog 59 Tryz.f59 hint59 := ⟨_, fun O => by conv => rhs; reduce⟩
noncomputable def t60 : Tr Tryz.prog 60 Tryz.f60 hint60 := ⟨_, fun O => by conv => rhs; reduce⟩
noncomputable def t61 : Tr Tryz.prog 61 Tryz.f61 hint61 := ⟨_, fun O => by conv => rhs; reduce⟩
end Go.Proofs.YtolmealocdgdhaaGreat.U
end
section
namespace Go.Proofs.YtolmealocdgdhaaGreat.U
open Go Go.Abs Go.Proofs.YtolmealocdgdhaaGreat
set_option maxRecDepth 20000
set_option maxHeartbeats 4000000
noncomputable def t63 : Tr Tryz.prog 63 Tryz.f63 hint63 := ⟨_, fun O => by conv => rhs; reduce⟩
noncomputable def t64 : Tr Tryz.prog 64 Tryz.f64 hint64 := ⟨_, fun O => by conv => rhs; reduce⟩
noncomputable def t65 : Tr Tryz.prog 65 Tryz.f65 hint65 := ⟨_, fun O => by conv => rhs; reduce⟩
noncomputable def t66 : Tr Tryz.prog 66 Tryz.f66 hint66 := ⟨_, fun O => by conv => rhs; reduce⟩
noncomputable def t67 : Tr Tryz.prog 67 Tryz.f67 hint67 := ⟨_, fun O => by conv => rhs; reduce⟩
noncomputable def t68 : Tr Tryz.prog 68 Tryz.f68 hint68 := ⟨_, fun O => by conv => rhs; reduce⟩
noncomputable def t69 : Tr Tryz.prog 69 Tryz.f69 hint69 := ⟨_, fun O => by conv => rhs; reduce⟩
noncomputable def t70 : Tr Tryz.prog 70 Tryz.f70 hint70 := ⟨_, fun O => by conv => rhs; reduce⟩
noncomputable def t71 : Tr Tryz.prog 71 Tryz.f71 hint71 := ⟨_, fun O => by conv => rhs; reduce⟩
noncomputable def t72 : Tr Tryz.prog 72 Tryz.f72 hint72 := ⟨_, fun O => by conv => rhs; reduce⟩
noncomputable def t73 : Tr Tryz.prog 73 Tryz.f73 hint73 := ⟨_, fun O => by conv => rhs; reduce⟩
noncomputable def t74 : Tr Tryz.prog 74 Tryz.f74 hint74 := ⟨_, fun O => by conv => rhs; reduce⟩
noncomputable def t75 : Tr Tryz.prog 75 Tryz.f75 hint75 := ⟨_, fun O => by conv => rhs; reduce⟩
noncomputable def t76 : Tr Tryz.prog 76 Tryz.f76 hint76 := ⟨_, fun O => by conv => rhs; reduce⟩
noncomputable def t77 : Tr Tryz.prog 77 Tryz.f77 hint77 := ⟨_, fun O => by conv => rhs; reduce⟩
noncomputable def t78 : Tr Tryz.prog 78 Tryz.f78 hint78 := ⟨_, fun O => by conv => rhs; reduce⟩
noncomputable def t79 : Tr Tryz.prog 79 Tryz.f79 hint79 := ⟨_, fun O => by conv => rhs; reduce⟩
noncomputable def t80 : Tr Tryz.prog 80 Tryz.f80 hint80 := ⟨_, fun O => by conv => rhs; reduce⟩
noncomputable def t81 : Tr Tryz.prog 81 Tryz.f81 hint81 := ⟨_, fun O => by conv => rhs; reduce⟩
noncomputable def t82 : Tr Tryz.prog 82 Tryz.f82 hint82 := ⟨_, fun O => by conv => rhs; reduce⟩
noncomputable def t83 : Tr Tryz.prog 83 Tryz.f83 hint83 := ⟨_, fun O => by conv => rhs; reduce⟩
noncomputable def t84 : Tr Tryz.prog 84 Tryz.f84 hint84 := ⟨_, fun O => by conv => rhs; reduce⟩
noncomputable def t85 : Tr Tryz.prog 85 Tryz.f85 hint85 := ⟨_, fun O => by conv => rhs; reduce⟩
noncomputable def t86 : Tr Tryz.prog 86 Tryz.f86 hint86 := ⟨_, fun O => by conv => rhs; reduce⟩
noncomputable def t87 : Tr Tryz.prog 87 Tryz.f87 hint87 := ⟨_, fun O => by conv => rhs; reduce⟩
noncomputable def t88 : Tr Tryz.prog 88 Tryz.f88 hint88 := ⟨_, fun O => by conv => rhs; reduce⟩
noncomputable def t89 : Tr Tryz.prog 89 Tryz.f89 hint89 := ⟨_, fun O => by conv => rhs; reduce⟩
noncomputable def t90 : Tr Tryz.prog 90 Tryz.f90 hint90 := ⟨_, fun O => by conv => rhs; reduce⟩
noncomputable def t91 : Tr Tryz.prog 91 Tryz.f91 hint91 := ⟨_, fun O => by conv => rhs; reduce⟩
noncomputable def t92 : Tr Tryz.prog 92 Tryz.f92 hint92 := ⟨_, fun O => by conv => rhs; reduce⟩
noncomputable def t93 : Tr Tryz.prog 93 Tryz.f93 hint93 := ⟨_, fun O => by conv => rhs; reduce⟩
noncomputable def t94 : Tr Tryz.prog 94 Tryz.f94 hint94 := ⟨_, fun O => by conv => rhs; reduce⟩
noncomputable def t95 : Tr Tryz.prog 95 Tryz.f95 hint95 := ⟨_, fun O => by conv => rhs; reduce⟩
noncomputable def t96 : Tr Tryz.prog 96 Tryz.f96 hint96 := ⟨_, fun O => by conv => rhs; reduce⟩
noncomputable def t97 : Tr Tryz.prog 97 Tryz.f97 hint97 := ⟨_, fun O => by conv => rhs; reduce⟩
noncomputable def t98 : Tr Tryz.prog 98 Tryz.f98 hint98 := ⟨_, fun O => by conv => rhs; reduce⟩
noncomputable def t99 : Tr Tryz.prog 99 Tryz.f99 hint99 := ⟨_, fun O => by conv => rhs; reduce⟩
noncomputable def t100 : Tr Tryz.prog 100 Tryz.f100 hint100 := ⟨_, fun O => by conv => rhs; reduce⟩
noncomputable def t101 : Tr Tryz.prog 101 Tryz.f101 hint101 := ⟨_, fun O => by conv => rhs; reduce⟩
noncomputable def t102 : Tr Tryz.prog 102 Tryz.f102 hint102 := ⟨_, fun O => by conv => rhs; reduce⟩
noncomputable def t103 : Tr Tryz.prog 103 Tryz.f103 hint103 := ⟨_, fun O => by conv => rhs; reduce⟩
noncomputable def t104 : Tr Tryz.prog 104 Tryz.f104 hint104 := ⟨_, fun O => by conv => rhs; reduce⟩
noncomputable def t105 : Tr Tryz.prog 105 Tryz.f105 hint105 := ⟨_, fun O => by conv => rhs; reduce⟩
noncomputable def t106 : Tr Tryz.prog 106 Tryz.f106 hint106 := ⟨_, fun O => by conv => rhs; reduce⟩
noncomputable def t107 : Tr Tryz.prog 107 Tryz.f107 hint107 := ⟨_, fun O => by conv => rhs; reduce⟩
noncomputable def t108 : Tr Tryz.prog 108 Tryz.f108 hint108 := ⟨_, fun O => by conv => rhs; reduce⟩
noncomputable def t109 : Tr Tryz.prog 109 Tryz.f109 hint109 := ⟨_, fun O => by conv => rhs; reduce⟩
noncomputable def t110 : Tr Tryz.prog 110 Tryz.f110 hint110 := ⟨_, fun O => by conv => rhs; reduce⟩
noncomputable def t111 : Tr Tryz.prog 111 Tryz.f111 hint111 := ⟨_, fun O => by conv => rhs; reduce⟩
noncomputable def t112 : Tr Tryz.prog 112 Tryz.f112 hint112 := ⟨_, fun O => by conv => rhs; reduce⟩
noncomputable def t113 : Tr Tryz.prog 113 Tryz.f113 hint113 := ⟨_, fun O => by conv => rhs; reduce⟩
noncomputable def t114 : Tr Tryz.prog 114 Tryz.f114 hint114 := ⟨_, fun O => by conv => rhs; reduce⟩
noncomputable def t115 : Tr Tryz.prog 115 Tryz.f115 hint115 := ⟨_, fun O => by conv => rhs; reduce⟩
noncomputable def t116 : Tr Tryz.prog 116 Tryz.f116 hint116 := ⟨_, fun O => by conv => rhs; reduce⟩
noncomputable def t117 : Tr Tryz.prog 117 Tryz.f117 hint117 := ⟨_, fun O => by conv => rhs; reduce⟩
noncomputable def t118 : Tr Tryz.prog 118 Tryz.f118 hint118 := ⟨_, fun O => by conv => rhs; reduce⟩
noncomputable def t119 : Tr Tryz.prog 119 Tryz.f119 hint119 := ⟨_, fun O => by conv => rhs; reduce⟩
noncomputable def t120 : Tr Tryz.prog 120 Tryz.f120 hint120 := ⟨_, fun O => by conv => rhs; reduce⟩
noncomputable def t121 : Tr Tryz.prog 121 Tryz.f121 hint121 := ⟨_, fun O => by conv => rhs; reduce⟩
end Go.Proofs.YtolmealocdgdhaaGreat.U
end
section
namespace Go.Proofs.YtolmealocdgdhaaGreat.U
open Go Go.Abs Go.Proofs.YtolmealocdgdhaaGreat
set_option maxRecDepth 20000
set_option maxHeartbeats 4000000
noncomputable def t122 : Tr Tryz.prog 122 Tryz.f122 hint122 := ⟨_, fun O => by conv => rhs; reduce⟩
noncomputable def t123 : Tr Tryz.prog 123 Tryz.f123 hint123 := ⟨_, fun O => by conv => rhs; reduce⟩
noncomputable def t124 : Tr Tryz.prog 124 Tryz.f124 hint124 := ⟨_, fun O => by conv => rhs; reduce⟩
noncomputable def t125 : Tr Tryz.prog 125 Tryz.f125 hint125 := ⟨_, fun O => by conv => rhs; reduce⟩
noncomputable def t126 : Tr Tryz.prog 126 Tryz.f126 hint126 := ⟨_, fun O => by conv => rhs; reduce⟩
noncomputable def t127 : Tr Tryz.prog 127 Tryz.f127 hint127 := ⟨_, fun O => by conv => rhs; reduce⟩
noncomputable def t128 : Tr Tryz.prog 128 Tryz.f128 hint128 := ⟨_, fun O => by conv => rhs; reduce⟩
noncomputable def t129 : Tr Tryz.prog 129 Tryz.f129 hint129 := ⟨_, fun O => by conv => rhs; reduce⟩
noncomputable def t130 : Tr Tryz.prog 130 Tryz.f130 hint130 := ⟨_, fun O => by conv => rhs; reduce⟩
noncomputable def t131 : Tr Tryz.prog 131 Tryz.f131 hint131 := ⟨_, fun O => by conv => rhs; reduce⟩
noncomputable def t132 : Tr Tryz.prog 132 Tryz.f132 hint132 := ⟨_, fun O => by conv => rhs; reduce⟩
noncomputable def t133 : Tr Tryz.prog 133 Tryz.f133 hint133 := ⟨_, fun O => by conv => rhs; reduce⟩
noncomputable def t134 : Tr Tryz.prog 134 Tryz.f134 hint134 := ⟨_, fun O => by conv => rhs; reduce⟩
noncomputable def t135 : Tr Tryz.prog 135 Tryz.f135 hint135 := ⟨_, fun O => by conv => rhs; reduce⟩
noncomputable def t136 : Tr Tryz.prog 136 Tryz.f136 hint136 := ⟨_, fun O => by conv => rhs; reduce⟩
noncomputable def t137 : Tr Tryz.prog 137 Tryz.f137 hint137 := ⟨_, fun O => by conv => rhs; reduce⟩
noncomputable def t138 : Tr Tryz.prog 138 Tryz.f138 hint138 := ⟨_, fun O => by conv => rhs; reduce⟩
noncomputable def t139 : Tr Tryz.prog 139 Tryz.f139 hint139 := ⟨_, fun O => by conv => rhs; reduce⟩
noncomputable def t140 : Tr Tryz.prog 140 Tryz.f140 hint140 := ⟨_, fun O => by conv => rhs; reduce⟩
noncomputable def t141 : Tr Tryz.prog 141 Tryz.f141 hint141 := ⟨_, fun O => by conv => rhs; reduce⟩
noncomputable def t142 : Tr Tryz.prog 142 Tryz.f142 hint142 := ⟨_, fun O => by conv => rhs; reduce⟩
noncomputable def t143 : Tr Tryz.prog 143 Tryz.f143 hint143 := ⟨_, fun O => by conv => rhs; reduce⟩
noncomputable def t144 : Tr Tryz.prog 144 Tryz.f144 hint144 := ⟨_, fun O => by conv => rhs; reduce⟩
noncomputable def t145 : Tr Tryz.prog 145 Tryz.f145 hint145 := ⟨_, fun O => by conv => rhs; reduce⟩
noncomputable def t146 : Tr Tryz.prog 146 Tryz.f146 hint146 := ⟨_, fun O => by conv => rhs; reduce⟩
noncomputable def t147 : Tr Tryz.prog 147 Tryz.f147 hint147 := ⟨_, fun O => by conv => rhs; reduce⟩
noncomputable def t148 : Tr Tryz.prog 148 Tryz.f148 hint148 := ⟨_, fun O => by conv => rhs; reduce⟩
noncomputable def t149 : Tr Tryz.prog 149 Tryz.f149 hint149 := ⟨_, fun O => by conv => rhs; reduce⟩
noncomputable def t150 : Tr Tryz.prog 150 Tryz.f150 hint150 := ⟨_, fun O => by conv => rhs; reduce⟩
noncomputable def t151 : Tr Tryz.prog 151 Tryz.f151 hint151 := ⟨_, fun O => by conv => rhs; reduce⟩
noncomputable def t152 : Tr Tryz.prog 152 Tryz.f152 hint152 := ⟨_, fun O => by conv => rhs; reduce⟩
noncomputable def t153 : Tr Tryz.prog 153 Tryz.f153 hint153 := ⟨_, fun O => by conv => rhs; reduce⟩
noncomputable def t154 : Tr Tryz.prog 154 Tryz.f154 hint154 := ⟨_, fun O => by conv => rhs; reduce⟩
noncomputable def t155 : Tr Tryz.prog 155 Tryz.f155 hint155 := ⟨_, fun O => by conv => rhs; reduce⟩
noncomputable def t156 : Tr Tryz.prog 156 Tryz.f156 hint156 := ⟨_, fun O => by conv => rhs; reduce⟩
noncomputable def t157 : Tr Tryz.prog 157 Tryz.f157 hint157 := ⟨_, fun O => by conv => rhs; reduce⟩
noncomputable def t158 : Tr Tryz.prog 158 Tryz.f158 hint158 := ⟨_, fun O => by conv => rhs; reduce⟩
noncomputable def t159 : Tr Tryz.prog 159 Tryz.f159 hint159 := ⟨_, fun O => by conv => rhs; reduce⟩
noncomputable def t160 : Tr Tryz.prog 160 Tryz.f160 hint160 := ⟨_, fun O => by conv => rhs; reduce⟩
noncomputable def t161 : Tr Tryz.prog 161 Tryz.f161 hint161 := ⟨_, fun O => by conv => rhs; reduce⟩
noncomputable def t162 : Tr Tryz.prog 162 Tryz.f162 hint162 := ⟨_, fun O => by conv => rhs; reduce⟩
noncomputable def t163 : Tr Tryz.prog 163 Tryz.f163 hint163 := ⟨_, fun O => by conv => rhs; reduce⟩
noncomputable def t164 : Tr Tryz.prog 164 Tryz.f164 hint164 := ⟨_, fun O => by conv => rhs; reduce⟩
noncomputable def t165 : Tr Tryz.prog 165 Tryz.f165 hint165 := ⟨_, fun O => by conv => rhs; reduce⟩
noncomputable def t166 : Tr Tryz.prog 166 Tryz.f166 hint166 := ⟨_, fun O => by conv => rhs; reduce⟩
noncomputable def t167 : Tr Tryz.prog 167 Tryz.f167 hint167 := ⟨_, fun O => by conv => rhs; reduce⟩
noncomputable def t168 : Tr Tryz.prog 168 Tryz.f168 hint168 := ⟨_, fun O => by conv => rhs; reduce⟩
noncomputable def t169 : Tr Tryz.prog 169 Tryz.f169 hint169 := ⟨_, fun O => by conv => rhs; reduce⟩
noncomputable def t170 : Tr Tryz.prog 170 Tryz.f170 hint170 := ⟨_, fun O => by conv => rhs; reduce⟩
noncomputable def t171 : Tr Tryz.prog 171 Tryz.f171 hint171 := ⟨_, fun O => by conv => rhs; reduce⟩
noncomputable def t172 : Tr Tryz.prog 172 Tryz.f172 hint172 := ⟨_, fun O => by conv => rhs; reduce⟩
noncomputable def t173 : Tr Tryz.prog 173 Tryz.f173 hint173 := ⟨_, fun O => by conv => rhs; reduce⟩
noncomputable def t174 : Tr Tryz.prog 174 Tryz.f174 hint174 := ⟨_, fun O => by conv => rhs; reduce⟩
noncomputable def t175 : Tr Tryz.prog 175 Tryz.f175 hint175 := ⟨_, fun O => by conv => rhs; reduce⟩
noncomputable def t176 : Tr Tryz.prog 176 Tryz.f176 hint176 := ⟨_, fun O => by conv => rhs; reduce⟩
noncomputable def t177 : Tr Tryz.prog 177 Tryz.f177 hint177 := ⟨_, fun O => by conv => rhs; reduce⟩
noncomputable def t178 : Tr Tryz.prog 178 Tryz.f178 hint178 := ⟨_, fun O => by conv => rhs; reduce⟩
noncomputable def t179 : Tr Tryz.prog 179 Tryz.f179 hint179 := ⟨_, fun O => by conv => rhs; reduce⟩
noncomputable def t180 : Tr Tryz.prog 180 Tryz.f180 hint180 := ⟨_, fun O => by conv => rhs; reduce⟩
noncomputable def t181 : Tr Tryz.prog 181 Tryz.f181 hint181 := ⟨_, fun O => by conv => rhs; reduce⟩
end Go.Proofs.YtolmealocdgdhaaGreat.U
end
