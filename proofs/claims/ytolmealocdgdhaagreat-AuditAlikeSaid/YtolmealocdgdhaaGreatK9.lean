/- Texts of one claim, put together. -/
import Derived.Test.YtolmealocdgdhaaGreatK8
section
namespace Go.Abs
open Go

def Rel (nt : Nat) (e : Ev) (t : List AV) : Prop := t.length = nt ∧ ∀ i, (fnd i e).v = nth t i
def SkOk (nt : Nat) (sk : List Tmp) (e : Ev) : Prop := ∀ i ∈ sk, i < nt → fnd i e = .c (.tup [])

theorem nth_setF (t : List AV) (d i : Nat) (v : AV) : nth (setF t d v) i = if d = i ∧ d < t.length then v else nth t i := by
  rw [nth_eq, nth_eq, setF_eq, List.getD_eq_getElem?_getD, List.getD_eq_getElem?_getD, List.getElem?_set]
  by_cases h : d = i
  · subst h
    by_cases h2 : d < t.length
    · simp [h2]
    · simp [h2]
  · simp [h]
theorem setF_length (t : List AV) (d : Nat) (v : AV) : (setF t d v).length = t.length := by rw [setF_eq]; simp
theorem nth_ge {t : List AV} {i : Nat} (h : t.length ≤ i) : nth t i = .undef := by rw [nth_eq, List.getD_eq_getElem?_getD, List.getElem?_eq_none h]; rfl

theorem bltN (a b : Nat) : Nat.blt a b = decide (a < b) := by
  show Nat.ble (a + 1) b = _
  by_cases h : a < b
  · rw [decide_eq_true h]; exact Nat.ble_eq_true_of_le h
  · rw [decide_eq_false h]; cases e : Nat.ble (a + 1) b with
    | false => rfl
    | true => exact absurd (Nat.le_of_ble_eq_true e) h
theorem fnd_aput (nt : Nat) (e : Ev) (d : Nat) (v : SV) (i : Nat) : fnd i (aputE nt e (some d) v) = if d = i ∧ d < nt then v else fnd i e := by
  show fnd i (match Nat.blt d nt with | true => (d, v) :: e | false => e) = _
  rw [bltN]
  by_cases h : d < nt
  · rw [decide_eq_true h]; simp only [fnd_cons, h, and_true]
  · rw [decide_eq_false h]; simp only [h, and_false, if_false]
theorem Rel.aput {nt : Nat} {e : Ev} {t : List AV} (h : Rel nt e t) (d : Option Tmp) (v : SV) : Rel nt (aputE nt e d v) (aput t d v.v) := by
  cases d with
  | none => exact h
  | some d =>
    refine ⟨(setF_length t d v.v).trans h.1, fun i => ?_⟩
    show _ = nth (setF t d v.v) i
    rw [fnd_aput, nth_setF, h.1]
    split
    · rfl
    · exact h.2 i

section
variable {E : Env} {d : Do} {nt : Nat} {e : Ev} {t : List AV} {m : Mem}
theorem evK_eq (h : Rel nt e t) (x : Operand) {K : SV → CM} {F : AV → R} (hK : ∀ v : SV, interp d (K v) m = F v.v) : interp d (evK E.P e x K) m = (ev E.P t x).bind F := by
  cases x with
  | tmp i => show interp d (fndK i K e) m = F (nth t i); rw [fndK_eq, hK, h.2]
  | const v =>
    show interp d (match ofV v with | some a => K (.c a) | none => .fail) m = (ofV v).bind F
    cases ofV v with
    | none => rfl
    | some a => exact hK (.c a)
  | global g =>
    show interp d (match Nat.blt g E.P.globals.size with | true => K (.d (.ptr (some ⟨g, 0⟩))) | false => .fail) m = (if g < E.P.globals.size then some (.ptr (some ⟨g, 0⟩)) else none).bind F
    rw [bltN]
    by_cases hg : g < E.P.globals.size
    · rw [decide_eq_true hg, if_pos hg]; exact hK (.d _)
    · rw [decide_eq_false hg, if_neg hg]; rfl
  | func f => exact hK (.d _)
theorem evsK_eq (h : Rel nt e t) : ∀ (xs : List Operand) {K : List AV → CM} {F : List AV → R}, (∀ v, interp d (K v) m = F v) → interp d (evsK E.P e xs K) m = (evs E.P t xs).bind F
  | [], K, F, hK => hK []
  | x :: xs, K, F, hK => by
    unfold evsK
    rw [evK_eq h x (F := fun a => (evs E.P t xs).bind fun az => F (a :: az)) fun v => evsK_eq h xs fun az => hK _]
    have hu : evs E.P t (x :: xs) = match ev E.P t x, evs E.P t xs with | some a, some az => some (a :: az) | _, _ => none := rfl
    rw [hu]
    cases ev E.P t x with
    | none => rfl
    | some a => cases evs E.P t xs <;> rfl
theorem partsK_eq (h : Rel nt e t) : ∀ (xs : List (Nat × Operand)) {K : List (Nat × AV) → CM} {F : List (Nat × AV) → R}, (∀ v, interp d (K v) m = F v) → interp d (partsK E.P e xs K) m = (evParts E.P t xs).bind F
  | [], K, F, hK => hK []
  | (i, x) :: xs, K, F, hK => by
    unfold partsK
    rw [evK_eq h x (F := fun a => (evParts E.P t xs).bind fun az => F ((i, a) :: az)) fun v => partsK_eq h xs fun az => hK _]
    have hu : evParts E.P t ((i, x) :: xs) = match ev E.P t x, evParts E.P t xs with | some a, some az => some ((i, a) :: az) | _, _ => none := rfl
    rw [hu]
    cases ev E.P t x with
    | none => rfl
    | some a => cases evParts E.P t xs <;> rfl

theorem bind2 {α β : Type} (a : Option α) (G : α → Option β) (F : β → R) : (a.bind G).bind F = a.bind fun x => (G x).bind F := by cases a <;> rfl

theorem pureK_eq (h : Rel nt e t) (op : Op) {K : SV → CM} {F : AV → R} (hK : ∀ v : SV, interp d (K v) m = F v.v) : interp d (pureK (realO E) E.P e op K) m = (pureOp E.P op t).bind F := by
  have one : ∀ (x : Operand) (G : AV → Option AV) (G' : AV → Option AV), (∀ a, G' a = G a) → interp d (evK E.P e x fun a => .pu (G' a.v) fun x => K (.d x)) m = ((ev E.P t x).bind G).bind F := fun x G G' hG => by
    rw [bind2]
    refine evK_eq h x (F := fun a => (G a).bind F) fun v => ?_
    rw [interp_pu, hG]
    cases G v.v with
    | none => rfl
    | some r => exact hK (.d r)
  have two : ∀ (x y : Operand) (G G' : AV → AV → Option AV), (∀ a b, G' a b = G a b) → interp d (evK E.P e x fun a => evK E.P e y fun b => .pu (G' a.v b.v) fun x => K (.d x)) m = ((ev E.P t x).bind fun a => (ev E.P t y).bind fun b => G a b).bind F := fun x y G G' hG => by
    rw [bind2]
    refine evK_eq h x (F := fun a => ((ev E.P t y).bind (G a)).bind F) fun v => ?_
    rw [bind2]
    refine evK_eq h y (F := fun b => (G v.v b).bind F) fun w => ?_
    rw [interp_pu, hG]
    cases G v.v w.v with
    | none => rfl
    | some r => exact hK (.d r)
  have three : ∀ (x y z : Operand) (G G' : AV → AV → AV → Option AV), (∀ a b c, G' a b c = G a b c) → interp d (evK E.P e x fun a => evK E.P e y fun b => evK E.P e z fun c => .pu (G' a.v b.v c.v) fun x => K (.d x)) m =
      ((ev E.P t x).bind fun a => (ev E.P t y).bind fun b => (ev E.P t z).bind fun c => G a b c).bind F := fun x y z G G' hG => by
    rw [bind2]
    refine evK_eq h x (F := fun a => ((ev E.P t y).bind fun b => (ev E.P t z).bind fun c => G a b c).bind F) fun v => ?_
    rw [bind2]
    refine evK_eq h y (F := fun b => ((ev E.P t z).bind fun c => G v.v b c).bind F) fun w => ?_
    rw [bind2]
    refine evK_eq h z (F := fun c => (G v.v w.v c).bind F) fun u => ?_
    rw [interp_pu, hG]
    cases G v.v w.v u.v with
    | none => rfl
    | some r => exact hK (.d r)
  unfold pureK
  split
  · exact evK_eq h _ hK
  · exact evK_eq h _ hK
  · rename_i c a b
    show _ = ((ev E.P t c).bind fun c => (ev E.P t a).bind fun a => (ev E.P t b).bind fun b => pickA c a b).bind F
    rw [bind2]
    refine evK_eq h c (F := fun c => ((ev E.P t a).bind fun a => (ev E.P t b).bind fun b => pickA c a b).bind F) fun v => ?_
    rw [bind2]
    refine evK_eq h a (F := fun a => ((ev E.P t b).bind fun b => pickA v.v a b).bind F) fun w => ?_
    rw [bind2]
    refine evK_eq h b (F := fun b => (pickA v.v w.v b).bind F) fun u => ?_
    split
    · exact hK w
    · exact hK u
    · rename_i x h1 h2
      cases x with
      | bool b => cases b with
        | true => exact absurd rfl h1
        | false => exact absurd rfl h2
      | _ => rfl
    · rename_i x
      rw [interp_pu]
      show (pickA x w.v u.v).bind (fun v => interp d (K (.d v)) m) = (pickA x w.v u.v).bind F
      cases pickA x w.v u.v with
      | none => rfl
      | some r => exact hK (.d r)
  · exact one _ _ _ fun _ => rfl
  · exact two _ _ _ _ fun _ _ => rfl
  · exact one _ _ _ fun _ => rfl
  · exact one _ _ _ fun _ => rfl
  · exact one _ _ _ fun _ => rfl
  · exact one _ _ _ fun _ => rfl
  · exact two _ _ _ _ fun _ _ => rfl
  · exact two _ _ _ _ fun _ _ => rfl
  · rename_i s x lo hi
    cases lo with
    | none => cases hi with
      | none => exact one _ _ _ fun _ => rfl
      | some hi => exact two _ _ _ _ fun _ _ => rfl
    | some lo => cases hi with
      | none => exact two _ _ _ _ fun _ _ => rfl
      | some hi => exact three _ _ _ _ _ fun _ _ _ => rfl
  · rename_i s x lo hi mx
    cases lo with
    | none => exact three _ _ _ _ _ fun _ _ _ => rfl
    | some lo =>
      show _ = ((ev E.P t x).bind fun a => (ev E.P t hi).bind fun h => (ev E.P t mx).bind fun m => (ev E.P t lo).bind fun l => slice3A E.P s a (some l) h m).bind F
      rw [bind2]
      refine evK_eq h x (F := fun a => ((ev E.P t hi).bind fun h => (ev E.P t mx).bind fun m => (ev E.P t lo).bind fun l => slice3A E.P s a (some l) h m).bind F) fun a => ?_
      rw [bind2]
      refine evK_eq h hi (F := fun h => ((ev E.P t mx).bind fun m => (ev E.P t lo).bind fun l => slice3A E.P s a.v (some l) h m).bind F) fun b => ?_
      rw [bind2]
      refine evK_eq h mx (F := fun m => ((ev E.P t lo).bind fun l => slice3A E.P s a.v (some l) b.v m).bind F) fun c => ?_
      rw [bind2]
      refine evK_eq h lo (F := fun l => (slice3A E.P s a.v (some l) b.v c.v).bind F) fun l => ?_
      rw [interp_pu]
      show (slice3A E.P s a.v (some l.v) b.v c.v).bind _ = _
      cases slice3A E.P s a.v (some l.v) b.v c.v with
      | none => rfl
      | some r => exact hK (.d r)
  · exact one _ _ _ fun _ => rfl
  · exact one _ _ _ fun _ => rfl
  · rename_i g first cap
    show _ = ((evs E.P t first.toList).bind fun a => (evs E.P t cap.toList).bind fun b => some (.fn g a b)).bind F
    rw [bind2]
    refine evsK_eq h _ fun a => ?_
    rw [bind2]
    exact evsK_eq h _ fun b => hK _
  · rename_i s ps
    show _ = ((evParts E.P t ps.toList).bind (buildA E.P s)).bind F
    rw [bind2]
    refine partsK_eq h _ fun a => ?_
    rw [interp_pu]
    show (buildA E.P s a).bind _ = _
    cases buildA E.P s a with
    | none => rfl
    | some r => exact hK (.d r)
  · exact one _ _ _ fun _ => rfl
  · exact one _ _ _ fun _ => rfl
  · exact two _ _ _ _ fun _ _ => rfl
  · exact two _ _ _ _ fun _ _ => rfl
  · show none = _
    unfold pureOp
    split <;> first | rfl | (exfalso; simp_all <;> (rename_i hh; first | exact hh _ _ _ _ _ rfl rfl rfl rfl rfl | exact hh _ _ _ _ rfl rfl rfl rfl))

theorem evK_cases (h : Rel nt e t) (x : Operand) : (∃ v : SV, ev E.P t x = some v.v ∧ ∀ K, evK E.P e x K = K v) ∨ (ev E.P t x = none ∧ ∀ K, evK E.P e x K = .fail) := by
  cases x with
  | tmp i => exact .inl ⟨fnd i e, by rw [h.2]; rfl, fun K => fndK_eq i K e⟩
  | const v =>
    cases hv : ofV v with
    | none => exact .inr ⟨hv, fun K => by show (match ofV v with | some a => K (.c a) | none => .fail) = _; rw [hv]⟩
    | some a => exact .inl ⟨.c a, hv, fun K => by show (match ofV v with | some a => K (.c a) | none => .fail) = _; rw [hv]⟩
  | global g =>
    by_cases hg : g < E.P.globals.size
    · refine .inl ⟨.d (.ptr (some ⟨g, 0⟩)), if_pos hg, fun K => ?_⟩
      show (match Nat.blt g E.P.globals.size with | true => K (.d (.ptr (some ⟨g, 0⟩))) | false => .fail) = _
      rw [bltN, decide_eq_true hg]
    · refine .inr ⟨if_neg hg, fun K => ?_⟩
      show (match Nat.blt g E.P.globals.size with | true => K (.d (.ptr (some ⟨g, 0⟩))) | false => .fail) = _
      rw [bltN, decide_eq_false hg]
  | func f => exact .inl ⟨.d (.fn (.func f) [] []), rfl, fun K => rfl⟩

theorem readK_eq (h : Rel nt e t) (op : Op) {K : (Mem → Option AV) → CM} {r : R} (h1 : ∀ f, (∀ m', f m' = readOp E.P op t m') → interp d (K f) m = r) (h2 : (∀ m', readOp E.P op t m' = none) → r = none) :
    interp d (readK (realO E) E.P e op K) m = r := by
  have one : ∀ (x : Operand) (G : AV → Mem → Option AV) (G' : AV → Mem → Option AV), (∀ a m, G' a m = G a m) → (∀ m', readOp E.P op t m' = (ev E.P t x).bind fun a => G a m') → interp d (evK E.P e x fun a => K (G' a.v)) m = r := fun x G G' hG he => by
    rcases evK_cases (E := E) h x with ⟨v, e1, e2⟩ | ⟨e1, e2⟩
    · rw [e2]; exact h1 _ fun m' => by rw [he, e1, hG]; rfl
    · rw [e2]; exact (h2 fun m' => by rw [he, e1]; rfl).symm
  unfold readK
  split
  · exact one _ _ _ (fun _ _ => rfl) fun _ => rfl
  · exact one _ _ _ (fun _ _ => rfl) fun _ => rfl
  · rename_i s x k ok
    rcases evK_cases (E := E) h x with ⟨v, e1, e2⟩ | ⟨e1, e2⟩
    · rw [e2]
      rcases evK_cases (E := E) h k with ⟨w, e3, e4⟩ | ⟨e3, e4⟩
      · rw [e4]
        refine h1 _ fun m' => ?_
        show _ = (ev E.P t x).bind fun a => (ev E.P t k).bind fun k => lookupA E.P s a k ok m'
        rw [e1, e3]; rfl
      · rw [e4]
        refine (h2 fun m' => ?_).symm
        show ((ev E.P t x).bind fun a => (ev E.P t k).bind fun k => lookupA E.P s a k ok m') = _
        rw [e1, e3]; rfl
    · rw [e2]
      refine (h2 fun m' => ?_).symm
      show ((ev E.P t x).bind fun a => (ev E.P t k).bind fun k => lookupA E.P s a k ok m') = _
      rw [e1]; rfl
  · exact one _ _ _ (fun _ _ => rfl) fun _ => rfl
  · exact one _ _ _ (fun _ _ => rfl) fun _ => rfl
  · refine (h2 fun m' => ?_).symm
    unfold readOp
    split <;> first | rfl | (exfalso; simp_all <;> (rename_i hh; first | exact hh _ _ _ rfl rfl rfl | exact hh _ _ rfl rfl | exact hh _ _ _ _ rfl rfl rfl rfl | exact Bool.noConfusion (((hh _ _ _).1 rfl rfl rfl).symm.trans ((hh _ _ _).2 rfl rfl rfl))))

theorem allocK_eq (h : Rel nt e t) (op : Op) {K : SV → CM} {F : AV → Mem → R} (hK : ∀ (v : SV) m, interp d (K v) m = F v.v m) : interp d (allocK (realO E) E.P e op K) m = (allocOp E.P op t).bind fun ca => F (ca.2 m.next) (m.lay ca.1) := by
  have al : ∀ (o : Option (Blk × (Nat → AV))), interp d (.al o fun x => K (.d x)) m = o.bind fun ca => F (ca.2 m.next) (m.lay ca.1) := fun o => by
    rw [interp_al]
    cases o with
    | none => rfl
    | some ca => exact hK (.d _) _
  unfold allocK
  split
  · rename_i ty
    show interp d (match zeroA E.P ty with | some cs => _ | none => _) m = ((zeroA E.P ty).map fun cs => (Blk.cells cs false, fun b => AV.ptr (some ⟨b, 0⟩))).bind _
    cases zeroA E.P ty with
    | none => rfl
    | some cs => exact al _
  · rename_i ty x
    show _ = (((ev E.P t x).bind AV.cells).map fun cs => (Blk.cells cs false, fun b => AV.ptr (some ⟨b, 0⟩))).bind _
    rcases evK_cases (E := E) h x with ⟨v, e1, e2⟩ | ⟨e1, e2⟩
    · rw [e2, e1]; exact al _
    · rw [e2, e1]; rfl
  · rename_i s
    show _ = (match E.P.underlying s with | some (.map ..) => some (Blk.map [], fun b => AV.map (some b)) | _ => none).bind _
    cases E.P.underlying s with
    | none => rfl
    | some u =>
      cases u with
      | map k el => exact al _
      | _ => rfl
  · rename_i s len parts
    show _ = (match E.P.underlying s with
      | some (.slice e) => match szT E.P e, zeroA E.P e with
        | some n, some zs => if len * n ≤ 16777216 ∧ zs.length = n then (evParts E.P t parts.toList).bind fun ps =>
            (fillA (fun i => some (i * n, n)) (List.replicate len zs).flatten ps).map fun cs => (Blk.cells cs false, fun b => AV.sl (some ⟨b, 0⟩) n len len true) else none
        | _, _ => none
      | _ => none).bind _
    cases E.P.underlying s with
    | none => rfl
    | some u =>
      cases u with
      | slice ty =>
        simp only
        cases szT E.P ty with
        | none => rfl
        | some n =>
          cases zeroA E.P ty with
          | none => rfl
          | some zs =>
            simp only
            by_cases hc : len * n ≤ 16777216 ∧ zs.length = n
            · rw [if_pos hc, show (Nat.ble (len * n) 16777216 && Nat.beq zs.length n) = true by rw [Nat.ble_eq_true_of_le hc.1, hc.2, Nat.beq_refl]; rfl]
              rw [bind2]
              exact partsK_eq h _ fun ps => al _
            · rw [if_neg hc]
              cases hb : (Nat.ble (len * n) 16777216 && Nat.beq zs.length n) with
              | false => rfl
              | true =>
                rw [Bool.and_eq_true] at hb
                exact absurd ⟨Nat.le_of_ble_eq_true hb.1, Nat.eq_of_beq_eq_true hb.2⟩ hc
      | _ => rfl
  · rename_i s l c
    show _ = ((ev E.P t l).bind fun l => (ev E.P t c).bind fun c =>
      match E.P.underlying s, l, c with
      | some (.slice e), .int .i64 l, .int .i64 c => match szT E.P e, zeroA E.P e, bytesT E.P e with
        | some n, some zs, some w =>
          if 0 ≤ l ∧ l ≤ c ∧ c < 9223372036854775808 ∧ c.toNat * w ≤ maxBytes ∧ zs.length = n then
            some (Blk.cells (List.replicate c.toNat zs).flatten false, fun b => AV.sl (some ⟨b, 0⟩) n l.toNat c.toNat true) else none
        | _, _, _ => none
      | _, _, _ => none).bind _
    rcases evK_cases (E := E) h l with ⟨v, e1, e2⟩ | ⟨e1, e2⟩
    · rcases evK_cases (E := E) h c with ⟨w, e3, e4⟩ | ⟨e3, e4⟩
      · rw [e2, e1, e4, e3]
        show interp d _ m = Option.bind (match E.P.underlying s, v.v, w.v with | some (.slice e), .int .i64 l, .int .i64 c => _ | _, _, _ => none) _
        cases E.P.underlying s with
        | none => rfl
        | some u =>
          cases u with
          | slice ty =>
            simp only
            cases h1 : szT E.P ty with
            | none =>
              simp only
              split
              · rename_i h2 _ _; cases h2; simp only [h1]; rfl
              · rfl
            | some n =>
              cases h2 : zeroA E.P ty with
              | none =>
                simp only
                split
                · rename_i h3 _ _; cases h3; simp only [h1, h2]; rfl
                · rfl
              | some zs =>
                cases h4 : bytesT E.P ty with
                | none =>
                  simp only
                  split
                  · rename_i h3 _ _; cases h3; simp only [h1, h2, h4]; rfl
                  · rfl
                | some b =>
                  simp only
                  refine (al _).trans ?_
                  show (msA n b zs v.v w.v).bind _ = _
                  unfold msA
                  congr 1
                  split
                  · rename_i h5 h6; simp only [h5, h6, h1, h2, h4]
                  · rename_i hh
                    split
                    · rename_i h7 h5 h6; exact (hh _ _ h5 h6).elim
                    · rfl
          | _ => rfl
      · rw [e2, e1, e4, e3]; rfl
    · rw [e2, e1]; rfl
  · rename_i s ty x
    show _ = ((ev E.P t x).bind fun x =>
      match (E.P.underlying s).isSome, E.P.underlying ty, x with
      | true, some (.slice e), .str s => match E.P.underlying e, szT E.P e with
        | some (.int .u8), some 1 => some (Blk.cells (s.map fun c => AV.int .u8 c.toNat) true, fun b => AV.sl (some ⟨b, 0⟩) 1 s.length s.length false)
        | _, _ => none
      | _, _, _ => none).bind _
    rcases evK_cases (E := E) h x with ⟨v, e1, e2⟩ | ⟨e1, e2⟩
    · simp only [e2, e1, Option.bind_some]
      cases E.P.underlying s with
      | none => rfl
      | some u0 =>
        simp only [Option.isSome_some]
        cases E.P.underlying ty with
        | none => rfl
        | some u =>
          cases u with
          | slice el =>
            simp only
            by_cases hc : E.P.underlying el = some (.int .u8) ∧ szT E.P el = some 1
            · simp only [hc.1, hc.2]
              refine (al _).trans ?_
              show (s2bA v.v).bind _ = _
              unfold s2bA
              congr 1
              split <;> rename_i hh
              · simp only [hh, hc.1, hc.2]
              · split
                · rename_i h5 h6; exact (hh _ h6).elim
                · rfl
            · have e4 : ∀ s : List UInt8, (match E.P.underlying el, szT E.P el with
                | some (.int .u8), some 1 => some (Blk.cells (s.map fun c => AV.int .u8 c.toNat) true, fun b => AV.sl (some ⟨b, 0⟩) 1 s.length s.length false)
                | _, _ => none) = none := fun s => by
                split
                · rename_i h5 h6; exact absurd ⟨h5, h6⟩ hc
                · rfl
              split
              · rename_i h5 h6; exact absurd ⟨h5, h6⟩ hc
              · show none = _
                split
                · rename_i h5 _; cases h5; rw [e4]; rfl
                · rfl
          | _ => rfl
    · simp only [e2, e1, Option.bind_none]
      cases E.P.underlying s with
      | none => rfl
      | some u0 =>
        simp only
        cases E.P.underlying ty with
        | none => rfl
        | some u =>
          cases u with
          | slice el =>
            simp only
            split <;> rfl
          | _ => rfl
  · show none = _
    unfold allocOp
    split <;> first | rfl | (exfalso; simp_all <;> (rename_i hh; first | exact hh _ _ _ rfl rfl rfl | exact hh _ _ rfl rfl | exact hh _ _ _ _ rfl rfl rfl rfl))

theorem effC_eq (h : Rel nt e t) (op : Op) {K : SV → CM} {F : AV → Mem → R} (hK : ∀ (v : SV) m, interp d (K v) m = F v.v m) : interp d (effC (realO E) E.P e op K) m = effK d.call E.P op t m F := by
  have st : ∀ (o : Mem → Option Mem), interp d (.st o (K (.c .undef))) m = (o m).bind fun m' => F .undef m' := fun o => by
    rw [interp_st]
    cases o m with
    | none => rfl
    | some m' => exact hK (.c .undef) _
  have ef : ∀ (o : Mem → R), interp d (.ef o fun x => K (.d x)) m = (o m).bind fun r => F r.1 r.2 := fun o => by
    rw [interp_ef]
    cases o m with
    | none => rfl
    | some r => exact hK (.d r.1) _
  unfold effC
  split
  · rename_i s a v
    show _ = (ev E.P t a).bind fun a => (ev E.P t v).bind fun v => (szT E.P s).bind fun n => (stV m a v n).bind fun m' => F .undef m'
    refine evK_eq h a (F := fun a => (ev E.P t v).bind fun v => (szT E.P s).bind fun n => (stV m a v n).bind fun m' => F .undef m') fun a => ?_
    refine evK_eq h v (F := fun v => (szT E.P s).bind fun n => (stV m a.v v n).bind fun m' => F .undef m') fun v => ?_
    cases szT E.P s with
    | none => rfl
    | some n => exact st _
  · rename_i s x sy xt
    show _ = (ev E.P t s).bind fun s => (ev E.P t x).bind fun x => (appendOp E.P sy xt s x m).bind fun r => F r.1 r.2
    refine evK_eq h s (F := fun s => (ev E.P t x).bind fun x => (appendOp E.P sy xt s x m).bind fun r => F r.1 r.2) fun s => ?_
    refine evK_eq h x (F := fun x => (appendOp E.P sy xt s.v x m).bind fun r => F r.1 r.2) fun x => ?_
    have hd : ∀ u : Option TypeDesc, interp d (match (generalizing := false) u with
        | some (.int _) => .ef ((realO E).az sy s.v x.v) fun x => K (.d x)
        | _ => match appElem E.P sy xt with
          | some nw => .ef ((realO E).ap nw.1 nw.2 s.v x.v) fun x => K (.d x)
          | none => .fail) m = (match (generalizing := false) u with
        | some (.int _) => appendZ E.P sy s.v x.v m
        | _ => (appElem E.P sy xt).bind fun nw => appendA nw.1 nw.2 s.v x.v m).bind fun r => F r.1 r.2 := fun u => by
      split
      · exact ef _
      · cases appElem E.P sy xt with
        | none => rfl
        | some nw => exact ef _
    exact hd _
  · rename_i dd x sy _
    show _ = (copyElem E.P sy).bind fun n => (ev E.P t dd).bind fun d => (ev E.P t x).bind fun x => (copyA n d x m).bind fun r => F r.1 r.2
    cases copyElem E.P sy with
    | none => rfl
    | some n =>
      refine evK_eq h dd (F := fun d => (ev E.P t x).bind fun x => (copyA n d x m).bind fun r => F r.1 r.2) fun a => ?_
      exact evK_eq h x (F := fun x => (copyA n a.v x m).bind fun r => F r.1 r.2) fun b => ef _
  · rename_i s x k v
    show _ = (ev E.P t x).bind fun x => (ev E.P t k).bind fun k => (ev E.P t v).bind fun v => (mapPut E.P s x k v m).bind fun m' => F .undef m'
    refine evK_eq h x (F := fun x => (ev E.P t k).bind fun k => (ev E.P t v).bind fun v => (mapPut E.P s x k v m).bind fun m' => F .undef m') fun x => ?_
    refine evK_eq h k (F := fun k => (ev E.P t v).bind fun v => (mapPut E.P s x.v k v m).bind fun m' => F .undef m') fun k => ?_
    exact evK_eq h v (F := fun v => (mapPut E.P s x.v k.v v m).bind fun m' => F .undef m') fun v => st _
  · rename_i s x k v
    show _ = (ev E.P t x).bind fun x => (ev E.P t k).bind fun k => (ev E.P t v).bind fun v => (mapPut E.P s x k v m).bind fun m' => F .undef m'
    refine evK_eq h x (F := fun x => (ev E.P t k).bind fun k => (ev E.P t v).bind fun v => (mapPut E.P s x k v m).bind fun m' => F .undef m') fun x => ?_
    refine evK_eq h k (F := fun k => (ev E.P t v).bind fun v => (mapPut E.P s x.v k v m).bind fun m' => F .undef m') fun k => ?_
    exact evK_eq h v (F := fun v => (mapPut E.P s x.v k.v v m).bind fun m' => F .undef m') fun v => st _
  · rename_i x k s _
    show _ = (ev E.P t x).bind fun x => (ev E.P t k).bind fun k => (mapDel E.P s x k m).bind fun m' => F .undef m'
    refine evK_eq h x (F := fun x => (ev E.P t k).bind fun k => (mapDel E.P s x k m).bind fun m' => F .undef m') fun x => ?_
    exact evK_eq h k (F := fun k => (mapDel E.P s x.v k m).bind fun m' => F .undef m') fun k => st _
  · rename_i x s _
    exact evK_eq h x (F := fun x => (clearA E.P s x m).bind fun m' => F .undef m') fun x => st _
  · rename_i g xs _
    show _ = (ev E.P t (.func g)).bind fun fv => (evs E.P t xs).bind fun az => (callA d.call fv az m).bind fun r => F r.1 r.2
    refine evsK_eq h xs (F := fun az => (callA d.call (.fn (.func g) [] []) az m).bind fun r => F r.1 r.2) fun az => ?_
    rw [interp_call]
    show _ = (d.call (.fn g) ([] ++ az ++ []) m).bind fun r => F r.1 r.2
    rw [List.nil_append, List.append_nil]
    cases d.call (.fn g) az m with
    | none => rfl
    | some r => exact hK (.d r.1) _
  · rename_i fo xs _ _
    show _ = (ev E.P t fo).bind fun fv => (evs E.P t xs).bind fun az => (callA d.call fv az m).bind fun r => F r.1 r.2
    refine evK_eq h fo (F := fun fv => (evs E.P t xs).bind fun az => (callA d.call fv az m).bind fun r => F r.1 r.2) fun fv => ?_
    refine evsK_eq h xs (F := fun az => (callA d.call fv.v az m).bind fun r => F r.1 r.2) fun az => ?_
    rw [interp_callv]
    cases callA d.call fv.v az m with
    | none => rfl
    | some r => exact hK (.d r.1) _
  · rename_i s x
    exact evK_eq h x (F := fun x => (rangeA E.P s x m).bind fun r => F r.1 r.2) fun x => ef _
  · show none = _
    unfold effK
    split <;> first | rfl | (exfalso; simp_all; done) | (exfalso; simp_all <;> (rename_i hh; first | exact hh _ _ _ rfl rfl rfl | exact hh _ _ rfl rfl | exact hh _ _ _ _ rfl rfl rfl rfl))

theorem opC_eq (h : Rel nt e t) (op : Op) {K : SV → CM} {F : AV → Mem → R} (hK : ∀ (v : SV) m, interp d (K v) m = F v.v m) : interp d (opC (realO E) E.P e op K) m = opK d.call E.P op t m F := by
  unfold opC opK
  cases cls E.P op with
  | p => exact pureK_eq h op (F := fun v => F v m) fun v => hK v m
  | r =>
    refine readK_eq (r := (readOp E.P op t m).bind fun v => F v m) h op (fun f hf => ?_) fun hn => by rw [hn]; rfl
    rw [interp_rm, hf]
    cases readOp E.P op t m with
    | none => rfl
    | some v => exact hK (.d v) m
  | a => exact allocK_eq h op hK
  | e => exact effC_eq h op hK

theorem SkOk.put {nt : Nat} {sk : List Tmp} {e : Ev} (h : SkOk nt sk e) (d : Option Tmp) (v : SV) : SkOk nt (skDel sk d) (aputE nt e d v) := by
  cases d with
  | none => exact h
  | some d =>
    intro i hi hl
    obtain ⟨h1, h2⟩ := List.mem_filter.1 (show i ∈ sk.filter (· != d) from hi)
    rw [fnd_aput, if_neg (fun hh => by simp [hh.1] at h2)]
    exact h i h1 hl
theorem SkOk.skip {nt : Nat} {sk : List Tmp} {e : Ev} (h : SkOk nt sk e) (d : Option Tmp) : SkOk nt (d.toList ++ sk) (aputE nt e d (.c (.tup []))) := by
  cases d with
  | none => exact h
  | some d =>
    intro i hi hl
    rw [fnd_aput]
    by_cases hd : d = i
    · rw [if_pos ⟨hd, hd ▸ hl⟩]
    · rw [if_neg (fun hh => hd hh.1)]
      rcases List.mem_append.1 hi with h1 | h1
      · simp at h1; exact absurd h1.symm hd
      · exact h i h1 hl
theorem SkOk.know {nt : Nat} {sk : List Tmp} {e : Ev} (h : SkOk nt sk e) (d : Tmp) (v : SV) (hd : d < nt → d ∉ sk) : SkOk nt sk (aputE nt e (some d) v) := by
  intro i hi hl
  rw [fnd_aput, if_neg (fun hh : d = i ∧ d < nt => hd hh.2 (hh.1 ▸ hi))]
  exact h i hi hl

theorem guardK_eq (h : Rel nt e t) {sk : List Tmp} (hs : SkOk nt sk e) (ops : List Oper) (o : Oper) {y n : Ev → CM} {Y N : List AV → R} (hy : ∀ e t, Rel nt e t → SkOk nt sk e → interp d (y e) m = Y t) (hn : ∀ e t, Rel nt e t → SkOk nt sk e → interp d (n e) m = N t) :
    interp d (guardK nt sk ops o e y n) m = guardA sk ops o t Y N := by
  unfold guardK guardA
  cases o.guard with
  | none => exact hy e t h hs
  | some jw =>
    obtain ⟨j, want⟩ := jw
    simp only
    cases (ops[j]?).bind (·.dst) with
    | none => rfl
    | some dd =>
      simp only
      rw [fndK_eq, ← h.2]
      cases hv : fnd dd e with
      | c a =>
        have hb : a ≠ .tup [] → dd < nt → dd ∉ sk := fun ha hl hm => by
          have := hs dd hm hl
          rw [hv] at this
          exact ha (SV.c.inj this)
        cases a with
        | bool b =>
          have hput : ∀ b', b = b' → Rel nt (aputE nt e (some dd) (.c (.bool b'))) (setF t dd (.bool b')) := fun b' _ => h.aput (some dd) (.c (.bool b'))
          have hsk : ∀ b' : Bool, SkOk nt sk (aputE nt e (some dd) (.c (.bool b'))) := fun b' => hs.know dd _ (hb (by simp))
          have hbeq : AV.beq (SV.c (.bool b)).v (.tup []) = false := by cases b <;> rfl
          simp only [hbeq, Bool.and_false, Bool.false_eq_true, if_false]
          cases b <;> cases want
          · exact hy _ _ (hput _ rfl) (hsk _)
          · exact hn _ _ (hput _ rfl) (hsk _)
          · exact hn _ _ (hput _ rfl) (hsk _)
          · exact hy _ _ (hput _ rfl) (hsk _)
        | tup vs =>
          cases vs with
          | nil =>
            cases hc : sk.contains dd with
            | true =>
              simp only [SV.v, show AV.beq (.tup []) (.tup []) = true from AV.beq_refl _, Bool.and_true, if_true]
              exact hn _ _ h hs
            | false => simp only [Bool.false_and, Bool.false_eq_true, if_false]; rfl
          | cons v vs =>
            have hbeq : AV.beq (SV.c (.tup (v :: vs))).v (.tup []) = false := by simp [SV.v, AV.beq, AV.beqs]
            simp only [hbeq, Bool.and_false, Bool.false_eq_true, if_false]
            rfl
        | _ =>
          simp only [SV.v]
          simp only [AV.beq, Bool.and_false, Bool.false_eq_true, if_false]
          rfl
      | d a =>
        have hnot : dd < nt → dd ∉ sk := fun hl hm => by
          have := hs dd hm hl
          rw [hv] at this; cases this
        have hcond : (sk.contains dd && AV.beq a (.tup [])) = false := by
          by_cases hl : dd < nt
          · have : sk.contains dd = false := by
              cases hc : sk.contains dd with
              | false => rfl
              | true => exact absurd (List.contains_iff_mem.1 hc) (hnot hl)
            rw [this]; rfl
          · have := h.2 dd
            rw [hv, nth_ge (show t.length ≤ dd by rw [h.1]; exact Nat.le_of_not_lt hl)] at this
            have ha : a = .undef := this
            rw [ha]
            simp [AV.beq]
        simp only [SV.v, hcond, Bool.false_eq_true, if_false]
        have hT := h.aput (some dd) (.c (.bool true))
        have hF := h.aput (some dd) (.c (.bool false))
        have sT := hs.know dd (.c (.bool true)) hnot
        have sF := hs.know dd (.c (.bool false)) hnot
        cases want with
        | true =>
          simp only [interp_ifv]
          rw [hy _ _ hT sT, hn _ _ hF sF]
          cases a with
          | bool b => cases b <;> rfl
          | _ => rfl
        | false =>
          simp only [interp_ifv]
          rw [hn _ _ hT sT, hy _ _ hF sF]
          cases a with
          | bool b => cases b <;> rfl
          | _ => rfl

theorem opsC_eq (all : List Oper) {K : Ev → CM} {F : List AV → Mem → R} (hK : ∀ e t m, Rel nt e t → interp d (K e) m = F t m) : ∀ (os : List Oper) (sk : List Tmp) (e : Ev) (t : List AV) (m : Mem), Rel nt e t → SkOk nt sk e →
    interp d (opsC (realO E) E.P nt all os sk e K) m = opsK d.call E.P all os sk t m F
  | [], sk, e, t, m, h, hs => hK e t m h
  | o :: os, sk, e, t, m, h, hs => by
    unfold opsC opsK
    refine guardK_eq h hs all o (fun e t h hs => ?_) fun e t h hs => ?_
    · exact opC_eq h o.op fun v m => opsC_eq all hK os _ _ _ _ (h.aput o.dst v) (hs.put o.dst v)
    · exact opsC_eq all hK os _ _ _ _ (h.aput o.dst (.c (.tup []))) (hs.skip o.dst)

inductive RsOk : List (Nat × (Mem → Option AV) × AV) → List (Nat × (Mem → Option AV) × AV) → Prop
  | nil : RsOk [] []
  | cons {i : Nat} {f g : Mem → Option AV} {v : AV} {rs qs} (h : ∀ m, f m = g m) (hr : RsOk rs qs) : RsOk ((i, f, v) :: rs) ((i, g, v) :: qs)
theorem chkRC_eq {f g : Mem → Option AV} (hf : ∀ m, f m = g m) (v : AV) (c : List Nat) {K : CM} {F : R} (hK : interp d K m = F) : ∀ es, interp d (chkRC f v c es K) m = chkR g v c es F
  | [] => hK
  | (j, m0) :: es => by
    unfold chkRC chkR
    by_cases hj : j ∈ c
    · rw [show c.contains j = true from List.contains_iff_mem.2 hj, if_pos hj, ← hf]
      simp only [interp_chk]
      rw [chkRC_eq hf v c hK es]
    · rw [if_neg hj]
      cases hc : c.contains j with
      | true => exact absurd (List.contains_iff_mem.1 hc) hj
      | false => exact chkRC_eq hf v c hK es
theorem chkEC_eq (m0 : Mem) (c : List Nat) {K : CM} {F : R} (hK : interp d K m = F) : ∀ {rs qs}, RsOk rs qs → interp d (chkEC m0 c rs K) m = chkE m0 c qs F := by
  intro rs qs h
  induction h with
  | nil => exact hK
  | @cons j f g v rs qs hf _ ih =>
    unfold chkEC chkE
    by_cases hj : j ∈ c
    · rw [show c.contains j = true from List.contains_iff_mem.2 hj, if_pos hj, ← hf]
      simp only [interp_chk]
      rw [ih]
    · rw [if_neg hj]
      cases hc : c.contains j with
      | true => exact absurd (List.contains_iff_mem.1 hc) hj
      | false => exact ih

theorem dopsC_eq (all : List Oper) {K : Ev → CM} {F : List AV → Mem → R} (hK : ∀ e t m, Rel nt e t → interp d (K e) m = F t m) : ∀ (os : List Oper) (cs : List (List Nat)) (sk : List Tmp) (i : Nat) (rs qs) (es : List (Nat × Mem)) (e : Ev) (t : List AV) (m : Mem), RsOk rs qs → Rel nt e t → SkOk nt sk e →
    interp d (dopsC (realO E) E.P nt all cs os sk i rs es e K) m = dopsK d.call E.P all cs os sk i ⟨qs, es⟩ t m F
  | [], cs, sk, i, rs, qs, es, e, t, m, hr, h, hs => by
    cases cs <;> exact hK e t m h
  | o :: os, [], sk, i, rs, qs, es, e, t, m, hr, h, hs => rfl
  | o :: os, c :: cs, sk, i, rs, qs, es, e, t, m, hr, h, hs => by
    unfold dopsC dopsK
    refine guardK_eq h hs all o (fun e t h hs => ?_) fun e t h hs => ?_
    · cases cls E.P o.op with
      | p =>
        exact pureK_eq h o.op (F := fun v => dopsK d.call E.P all cs os (skDel sk o.dst) (i + 1) ⟨qs, es⟩ (aput t o.dst v) m F) fun v => dopsC_eq all hK os cs _ _ _ _ _ _ _ _ hr (h.aput o.dst v) (hs.put o.dst v)
      | r =>
        refine readK_eq (r := (readOp E.P o.op t m).bind fun v => chkR (readOp E.P o.op t) v c es (dopsK d.call E.P all cs os (skDel sk o.dst) (i + 1) ⟨(i, readOp E.P o.op t, v) :: qs, es⟩ (aput t o.dst v) m F)) h o.op (fun f hf => ?_) fun hn => by rw [hn]; rfl
        rw [interp_rm, hf]
        cases hv : readOp E.P o.op t m with
        | none => rfl
        | some v =>
          exact chkRC_eq hf v c (dopsC_eq all hK os cs _ _ _ _ _ _ _ _ (.cons hf hr) (h.aput o.dst (.d v)) (hs.put o.dst (.d v))) es
      | a => exact allocK_eq h o.op (F := fun v m => dopsK d.call E.P all cs os (skDel sk o.dst) (i + 1) ⟨qs, es⟩ (aput t o.dst v) m F) fun v m => dopsC_eq all hK os cs _ _ _ _ _ _ _ _ hr (h.aput o.dst v) (hs.put o.dst v)
      | e =>
        rw [interp_memo]
        refine effC_eq h o.op fun v m' => ?_
        rw [interp_memo]
        exact chkEC_eq m' c (dopsC_eq all hK os cs _ _ _ _ _ _ _ _ hr (h.aput o.dst v) (hs.put o.dst v)) hr
    · exact dopsC_eq all hK os cs _ _ _ _ _ _ _ _ hr (h.aput o.dst (.c (.tup []))) (hs.skip o.dst)
end
end Go.Abs
end
section
namespace Go.Abs
open Go

def IC.er : IC → AC
  | .skip => .skip
  | .region id ops draw chk anc => .region id ops draw chk anc
  | .seq a b => .seq a.er b.er
  | .cond c x y => .cond c x.er y.er
  | .block id b => .block id b.er
  | .loop b => .loop b.er
  | .rangeFunc _ f ps a b => .rangeFunc f ps a b
  | .scope b => .scope b.er
  | .exit id => .exit id
  | .ret => .ret
  | .pt _ live c => .pt live c.er
  | .other c => .other c
theorem index_er : ∀ (c : AC) (n l : Nat), (index c n l).er = c
  | .skip, _, _ | .region .., _, _ | .exit _, _, _ | .ret, _, _ | .rangeFunc .., _, _ | .other _, _, _ => rfl
  | .seq a b, n, l => by simp only [index, IC.er, index_er a, index_er b]
  | .cond c a b, n, l => by simp only [index, IC.er, index_er a, index_er b]
  | .block id b, n, l => by simp only [index, IC.er, index_er b]
  | .loop b, n, l => by simp only [index, IC.er, index_er b]
  | .scope b, n, l => by simp only [index, IC.er, index_er b]
  | .pt live b, n, l => by simp only [index, IC.er, index_er b]

def mkL : IC → List AI → List (Nat × List Bool × List AI)
  | .pt i l c, k => (i, l, .code c.er :: k) :: mkL c k
  | .seq a b, k => mkL a (.code b.er :: k) ++ mkL b k
  | .cond _ x y, k => mkL x k ++ mkL y k
  | .block id b, k => mkL b (.inBlock id :: k)
  | .loop b, k => mkL b (.inLoop b.er :: k)
  | .scope b, k => mkL b (.inScope b.er :: k)
  | _, _ => []
def lpL : IC → List AI → List (Nat × (List Tmp × AC × AC) × List AI)
  | .pt _ _ c, k => lpL c k
  | .seq a b, k => lpL a (.code b.er :: k) ++ lpL b k
  | .cond _ x y, k => lpL x k ++ lpL y k
  | .block id b, k => lpL b (.inBlock id :: k)
  | .loop b, k => lpL b (.inLoop b.er :: k)
  | .scope b, k => lpL b (.inScope b.er :: k)
  | .rangeFunc i _ ps a b, k => [(i, (ps, a, b), k)]
  | _, _ => []
def mksA : AC → List AI → List (List Bool × List AI)
  | .pt l c, k => (l, .code c :: k) :: mksA c k
  | .seq a b, k => mksA a (.code b :: k) ++ mksA b k
  | .cond _ x y, k => mksA x k ++ mksA y k
  | .block id b, k => mksA b (.inBlock id :: k)
  | .loop b, k => mksA b (.inLoop b :: k)
  | .scope b, k => mksA b (.inScope b :: k)
  | .rangeFunc _ _ a b, _ => mksA a [.beginRound, .code b] ++ mksA b []
  | _, _ => []
theorem mksA_marks : ∀ (c : AC) (k : List AI), (mksA c k).map (·.2) = marks c k
  | .pt l c, k => by simp only [mksA, marks, List.map_cons, mksA_marks c]
  | .seq a b, k => by simp only [mksA, marks, List.map_append, mksA_marks a, mksA_marks b]
  | .cond _ a b, k => by simp only [mksA, marks, List.map_append, mksA_marks a, mksA_marks b]
  | .block id b, k => by simp only [mksA, marks, mksA_marks b]
  | .loop b, k => by simp only [mksA, marks, mksA_marks b]
  | .scope b, k => by simp only [mksA, marks, mksA_marks b]
  | .rangeFunc _ _ a b, k => by simp only [mksA, marks, List.map_append, mksA_marks a, mksA_marks b]
  | .skip, _ | .region .., _ | .exit _, _ | .ret, _ | .other _, _ => rfl
theorem mksA_length : ∀ (c : AC) (k : List AI), (mksA c k).length = nMarks c
  | .pt l c, k => by simp only [mksA, nMarks, List.length_cons, mksA_length c]
  | .seq a b, k => by simp only [mksA, nMarks, List.length_append, mksA_length a, mksA_length b]
  | .cond _ a b, k => by simp only [mksA, nMarks, List.length_append, mksA_length a, mksA_length b]
  | .block id b, k => by simp only [mksA, nMarks, mksA_length b]
  | .loop b, k => by simp only [mksA, nMarks, mksA_length b]
  | .scope b, k => by simp only [mksA, nMarks, mksA_length b]
  | .rangeFunc _ _ a b, k => by simp only [mksA, nMarks, List.length_append, mksA_length a, mksA_length b]
  | .skip, _ | .region .., _ | .exit _, _ | .ret, _ | .other _, _ => rfl
theorem loops_length : ∀ (c : AC), (loops c).length = nLoops c
  | .pt l c => by simp only [loops, nLoops, loops_length c]
  | .seq a b => by simp only [loops, nLoops, List.length_append, loops_length a, loops_length b]
  | .cond _ a b => by simp only [loops, nLoops, List.length_append, loops_length a, loops_length b]
  | .block id b => by simp only [loops, nLoops, loops_length b]
  | .loop b => by simp only [loops, nLoops, loops_length b]
  | .scope b => by simp only [loops, nLoops, loops_length b]
  | .rangeFunc _ _ a b => by simp only [loops, nLoops, List.length_cons, List.length_append, loops_length a, loops_length b]
  | .skip | .region .. | .exit _ | .ret | .other _ => rfl
theorem lmarks_length : ∀ (c : AC) (k : List AI), (lmarks c k).length = nLoops c
  | .pt l c, k => by simp only [lmarks, nLoops, lmarks_length c]
  | .seq a b, k => by simp only [lmarks, nLoops, List.length_append, lmarks_length a, lmarks_length b]
  | .cond _ a b, k => by simp only [lmarks, nLoops, List.length_append, lmarks_length a, lmarks_length b]
  | .block id b, k => by simp only [lmarks, nLoops, lmarks_length b]
  | .loop b, k => by simp only [lmarks, nLoops, lmarks_length b]
  | .scope b, k => by simp only [lmarks, nLoops, lmarks_length b]
  | .rangeFunc _ _ a b, k => by simp only [lmarks, nLoops, List.length_cons, List.length_append, lmarks_length a, lmarks_length b]
  | .skip, _ | .region .., _ | .exit _, _ | .ret, _ | .other _, _ => rfl

theorem getApp {α : Type} {a b : List α} {i : Nat} {x : α} (h : a[i]? = some x) : (a ++ b)[i]? = some x := by
  rw [List.getElem?_append_left (List.getElem?_eq_some_iff.1 h).1]; exact h
theorem getApp2 {α : Type} {a b : List α} {i n : Nat} {x : α} (hn : a.length = n) (h : b[i]? = some x) : (a ++ b)[n + i]? = some x := by
  subst hn
  rw [List.getElem?_append_right (Nat.le_add_right _ _), Nat.add_sub_cancel_left]; exact h
theorem mkL_index : ∀ (c : AC) (n l : Nat) (k : List AI), ∀ x ∈ mkL (index c n l) k, ∃ i, x.1 = n + i ∧ (mksA c k)[i]? = some x.2
  | .skip, _, _, _, x, hx | .region .., _, _, _, x, hx | .exit _, _, _, _, x, hx | .ret, _, _, _, x, hx | .rangeFunc .., _, _, _, x, hx | .other _, _, _, _, x, hx => by simp [index, mkL] at hx
  | .pt live c, n, l, k, x, hx => by
    simp only [index, mkL, List.mem_cons, index_er] at hx
    rcases hx with rfl | hx
    · exact ⟨0, rfl, rfl⟩
    · obtain ⟨i, h1, h2⟩ := mkL_index c _ _ _ x hx
      exact ⟨i + 1, by omega, h2⟩
  | .seq a b, n, l, k, x, hx => by
    simp only [index, mkL, List.mem_append, index_er] at hx
    rcases hx with hx | hx
    · obtain ⟨i, h1, h2⟩ := mkL_index a _ _ _ x hx
      exact ⟨i, h1, getApp h2⟩
    · obtain ⟨i, h1, h2⟩ := mkL_index b _ _ _ x hx
      exact ⟨nMarks a + i, by omega, getApp2 (mksA_length _ _) h2⟩
  | .cond _ a b, n, l, k, x, hx => by
    simp only [index, mkL, List.mem_append] at hx
    rcases hx with hx | hx
    · obtain ⟨i, h1, h2⟩ := mkL_index a _ _ _ x hx
      exact ⟨i, h1, getApp h2⟩
    · obtain ⟨i, h1, h2⟩ := mkL_index b _ _ _ x hx
      exact ⟨nMarks a + i, by omega, getApp2 (mksA_length _ _) h2⟩
  | .block id b, n, l, k, x, hx => mkL_index b n l _ x hx
  | .loop b, n, l, k, x, hx => by
    simp only [index, mkL, index_er] at hx
    exact mkL_index b n l _ x hx
  | .scope b, n, l, k, x, hx => by
    simp only [index, mkL, index_er] at hx
    exact mkL_index b n l _ x hx
theorem lpL_index : ∀ (c : AC) (n l : Nat) (k : List AI), ∀ x ∈ lpL (index c n l) k, ∃ i, x.1 = l + i ∧ (loops c)[i]? = some x.2.1 ∧ (lmarks c k)[i]? = some x.2.2
  | .skip, _, _, _, x, hx | .region .., _, _, _, x, hx | .exit _, _, _, _, x, hx | .ret, _, _, _, x, hx | .other _, _, _, _, x, hx => by simp [index, lpL] at hx
  | .rangeFunc f ps a b, n, l, k, x, hx => by
    simp only [index, lpL, List.mem_singleton] at hx
    subst hx
    exact ⟨0, rfl, rfl, rfl⟩
  | .pt live c, n, l, k, x, hx => lpL_index c _ _ _ x hx
  | .seq a b, n, l, k, x, hx => by
    simp only [index, lpL, List.mem_append, index_er] at hx
    rcases hx with hx | hx
    · obtain ⟨i, h1, h2, h3⟩ := lpL_index a _ _ _ x hx
      exact ⟨i, h1, getApp h2, getApp h3⟩
    · obtain ⟨i, h1, h2, h3⟩ := lpL_index b _ _ _ x hx
      exact ⟨nLoops a + i, by omega, getApp2 (loops_length _) h2, getApp2 (lmarks_length _ _) h3⟩
  | .cond _ a b, n, l, k, x, hx => by
    simp only [index, lpL, List.mem_append] at hx
    rcases hx with hx | hx
    · obtain ⟨i, h1, h2, h3⟩ := lpL_index a _ _ _ x hx
      exact ⟨i, h1, getApp h2, getApp h3⟩
    · obtain ⟨i, h1, h2, h3⟩ := lpL_index b _ _ _ x hx
      exact ⟨nLoops a + i, by omega, getApp2 (loops_length _) h2, getApp2 (lmarks_length _ _) h3⟩
  | .block id b, n, l, k, x, hx => lpL_index b n l _ x hx
  | .loop b, n, l, k, x, hx => by
    simp only [index, lpL, index_er] at hx
    exact lpL_index b n l _ x hx
  | .scope b, n, l, k, x, hx => by
    simp only [index, lpL, index_er] at hx
    exact lpL_index b n l _ x hx

def Mq (E : Env) (k : Nat) : List Bool := cutL (ntOf E (k / 4096)) ((((mksA (codeOf E (k / 4096)) [])[k % 4096]?).map (·.1)).getD [])
def Nq (E : Env) (k : Nat) : List Bool := List.replicate (ntOf E (k / 4096)) true
def IC.okL : IC → Bool
  | .seq a b | .cond _ a b => a.okL && b.okL
  | .block _ b | .scope b => b.okL
  | .loop b => (match b with | .pt .. => true | _ => false) && b.okL
  | .pt i _ c => Nat.blt i 4096 && c.okL
  | .rangeFunc i .. => Nat.blt i 4096
  | _ => true

theorem cutL_length : ∀ (n : Nat) (l : List Bool), (cutL n l).length = n
  | 0, _ => rfl
  | n + 1, [] => by simp only [cutL, List.length_cons, cutL_length n]
  | n + 1, _ :: l => by simp only [cutL, List.length_cons, cutL_length n]
theorem mask_cut : ∀ (t : List AV) (l : List Bool), mask (cutL t.length l) t = mask l t
  | [], l => by cases l <;> rfl
  | v :: t, [] => by
    show .undef :: mask (cutL t.length []) t = .undef :: mask [] t
    rw [mask_cut t]
  | v :: t, true :: l => by
    show v :: mask (cutL t.length l) t = v :: mask l t
    rw [mask_cut t]
  | v :: t, false :: l => by
    show .undef :: mask (cutL t.length l) t = .undef :: mask l t
    rw [mask_cut t]
theorem spread_live (t : List AV) : ∀ (bs : List Bool) (j : Nat), j + bs.length = t.length → spread bs ((liveL j bs).map (nth t)) = mask bs (t.drop j)
  | [], j, h => by rw [List.drop_eq_nil_of_le (by simp at h; omega)]; rfl
  | b :: bs, j, h => by
    have hj : j < t.length := by simp at h; omega
    have ih := spread_live t bs (j + 1) (by simp at h; omega)
    rw [List.drop_eq_getElem_cons hj]
    cases b with
    | true =>
      show nth t j :: spread bs ((liveL (j + 1) bs).map (nth t)) = t[j] :: mask bs (t.drop (j + 1))
      rw [ih, nth_eq, List.getD_eq_getElem?_getD, List.getElem?_eq_getElem hj]; rfl
    | false =>
      have hu : ∀ vs, spread (false :: bs) vs = .undef :: spread bs vs := fun vs => by cases vs <;> rfl
      show spread (false :: bs) ((liveL (j + 1) bs).map (nth t)) = .undef :: mask bs (t.drop (j + 1))
      rw [hu, ih]
theorem spread_all : ∀ (t : List AV), spread (List.replicate t.length true) t = t
  | [] => rfl
  | v :: t => by
    show v :: spread (List.replicate t.length true) t = _
    rw [spread_all t]
theorem range_nth (t : List AV) : (List.range t.length).map (nth t) = t := by
  apply List.ext_getElem
  · simp
  · intro i h1 h2
    simp only [List.getElem_map, List.getElem_range]
    rw [nth_eq, List.getD_eq_getElem?_getD, List.getElem?_eq_getElem h2]; rfl

section
variable {E : Env} {f nt : Nat} {rs : List ResultVar} {d : Do}
theorem lsK_eq {e : Ev} : ∀ (is : List Nat) (K : List AV → CM), lsK e is K = K (is.map fun i => (fnd i e).v)
  | [], K => rfl
  | i :: is, K => by
    unfold lsK
    rw [fndK_eq, lsK_eq is]; rfl
theorem lsK_rel {e : Ev} {t : List AV} (h : Rel nt e t) (is : List Nat) (K : List AV → CM) : lsK e is K = K (is.map (nth t)) := by
  rw [lsK_eq]; congr 1
  exact List.map_congr_left fun i _ => h.2 i

def MkOk (E : Env) (f nt : Nat) (c : IC) (k : List AI) : Prop := ∀ x ∈ mkL c k, kAt E f x.1 = x.2.2 ∧ x.1 < 4096 ∧ Mq E (4096 * f + x.1) = cutL nt x.2.1
def LpOk (E : Env) (f nt : Nat) (c : IC) (k : List AI) : Prop := ∀ x ∈ lpL c k, kLoop E f x.1 = x.2.2 ∧ (loops (codeOf E f))[x.1]? = some x.2.1 ∧ x.1 < 4096 ∧ Nq E (4096 * f + x.1) = List.replicate nt true
def KOk (E : Env) (nt : Nat) (rs : List ResultVar) (k : List AI) (K : Ev → CM) : Prop := ∀ e t m, Rel nt e t → interp (real E (Mq E) (Nq E)) (K e) m = go E (mdR rs) k t m
def ExOk (E : Env) (nt : Nat) (rs : List ResultVar) (k : List AI) (ex : List (Nat × (Ev → CM))) : Prop := ∀ id e t m, Rel nt e t →
  interp (real E (Mq E) (Nq E)) (exK ex id e) m = match aexit id k with | some k' => go E (mdR rs) k' t m | none => none

theorem ExOk.push {k : List AI} {ex : List (Nat × (Ev → CM))} (h : ExOk E nt rs k ex) {x : AI} (hx : ∀ id, x ≠ .inBlock id) : ExOk E nt rs (x :: k) ex := fun id e t m hr => by
  rw [h id e t m hr]
  cases x with
  | inBlock id => exact absurd rfl (hx id)
  | _ => rfl
theorem ExOk.block {k : List AI} {ex : List (Nat × (Ev → CM))} (h : ExOk E nt rs k ex) {K : Ev → CM} (hK : KOk E nt rs k K) (j : Nat) : ExOk E nt rs (.inBlock j :: k) ((j, K) :: ex) := fun id e t m hr => by
  show interp _ (match Nat.beq j id with | true => K e | false => exK ex id e) m = match (if j = id then some k else aexit id k) with | some k' => go E (mdR rs) k' t m | none => none
  rw [beqN]
  by_cases hj : j = id
  · rw [decide_eq_true hj, if_pos hj]; exact hK e t m hr
  · rw [decide_eq_false hj, if_neg hj]; exact h id e t m hr

theorem key_div {f i : Nat} (h : i < 4096) : (4096 * f + i) / 4096 = f ∧ (4096 * f + i) % 4096 = i := by omega

theorem goK_eq {i : Nat} {live : List Bool} {k : List AI} (hk : kAt E f i = k) (hi : i < 4096) (hM : Mq E (4096 * f + i) = cutL nt live) (hrs : rsOf E f = rs) {e : Ev} {t : List AV} (h : Rel nt e t) (m : Mem) :
    interp (real E (Mq E) (Nq E)) (goK f nt i live e) m = go E (mdR rs) k (mask live t) m := by
  unfold goK
  rw [lsK_rel h, interp_go]
  show goAt E ((4096 * f + i) / 4096) ((4096 * f + i) % 4096) (spread (Mq E (4096 * f + i)) _) m = _
  rw [(key_div hi).1, (key_div hi).2, hM, spread_live t (cutL nt live) 0 (by rw [cutL_length, h.1]; omega), List.drop_zero, ← h.1, mask_cut]
  show go E (mdR (rsOf E f)) (kAt E f i) _ m = _
  rw [hrs, hk]

theorem resA_tmps {P : Program} {t : List AV} {m : Mem} : ∀ {l : List ResultVar}, allTmp l = true → resA P l t m = some (l.map fun r => nth t (rvI r))
  | [], _ => rfl
  | .tmp i :: l, h => by
    show (match resA P l t m with | some vs => some (nth t i :: vs) | none => none) = _
    rw [resA_tmps (l := l) h]; rfl
theorem nth_pre (pre us : List AV) (j : Nat) : nth (pre ++ us) (pre.length + j) = nth us j := by
  rw [nth_eq, nth_eq, List.getD_eq_getElem?_getD, List.getD_eq_getElem?_getD, List.getElem?_append_right (Nat.le_add_right _ _), Nat.add_sub_cancel_left]
theorem resA_renum {P : Program} {t : List AV} {m : Mem} : ∀ (l : List ResultVar) (pre : List AV), resA P (renum pre.length l) (pre ++ l.map fun r => nth t (rvI r)) m = resA P l t m
  | [], pre => rfl
  | .tmp i :: l, pre => by
    have ih := resA_renum (t := t) (m := m) (P := P) l (pre ++ [nth t i])
    have e1 : nth (pre ++ (nth t i :: l.map fun r => nth t (rvI r))) pre.length = nth t i := nth_pre pre _ 0
    simp only [List.length_append, List.length_singleton, List.append_assoc, List.singleton_append] at ih
    show (match resA P (renum (pre.length + 1) l) (pre ++ (nth t i :: l.map fun r => nth t (rvI r))) m with | some vs => some (nth (pre ++ (nth t i :: l.map fun r => nth t (rvI r))) pre.length :: vs) | none => none) = _
    rw [ih, e1]; rfl
  | .cell a ty :: l, pre => by
    have ih := resA_renum (t := t) (m := m) (P := P) l (pre ++ [nth t a])
    have e1 : nth (pre ++ (nth t a :: l.map fun r => nth t (rvI r))) pre.length = nth t a := nth_pre pre _ 0
    simp only [List.length_append, List.length_singleton, List.append_assoc, List.singleton_append] at ih
    show (match loadA P ty (nth (pre ++ (nth t a :: l.map fun r => nth t (rvI r))) pre.length) m, resA P (renum (pre.length + 1) l) (pre ++ (nth t a :: l.map fun r => nth t (rvI r))) m with | some v, some vs => some (v :: vs) | _, _ => none) = _
    rw [ih, e1]; rfl
theorem retK_eq {e : Ev} {t : List AV} (h : Rel nt e t) (m : Mem) (k : List AI) : interp (real E (Mq E) (Nq E)) (retK (realO E) nt rs e) m = go E (mdR rs) (.code .ret :: k) t m := by
  rw [go_step]
  unfold retK mdR
  cases hd : isDf rs with
  | true =>
    simp only
    rw [lsK_rel h, ← h.1, range_nth]; rfl
  | false =>
    simp only
    rw [lsK_rel h, List.map_map]
    show _ = (resA E.P rs t m).bind fun vs => some (tupA vs, m)
    cases ha : allTmp rs with
    | true => rw [resA_tmps ha]; rfl
    | false =>
      simp only [interp_resC]
      show (resA E.P (renum 0 rs) ([] ++ rs.map fun r => nth t (rvI r)) m).bind _ = _
      have := resA_renum (P := E.P) (t := t) (m := m) rs []
      simp only [List.length_nil] at this
      rw [this]
theorem retK_nil {e : Ev} {t : List AV} (h : Rel nt e t) (m : Mem) : interp (real E (Mq E) (Nq E)) (retK (realO E) nt rs e) m = go E (mdR rs) [] t m := by
  rw [retK_eq h m [], go_step, go_step]
  unfold mdR
  cases isDf rs <;> rfl

theorem MkOk.sub {c : IC} {k : List AI} (h : MkOk E f nt c k) {c' : IC} {k' : List AI} (hs : ∀ x ∈ mkL c' k', x ∈ mkL c k) : MkOk E f nt c' k' := fun x hx => h x (hs x hx)
theorem LpOk.sub {c : IC} {k : List AI} (h : LpOk E f nt c k) {c' : IC} {k' : List AI} (hs : ∀ x ∈ lpL c' k', x ∈ lpL c k) : LpOk E f nt c' k' := fun x hx => h x (hs x hx)

theorem loopK_eq {b : IC} {k : List AI} (hm : MkOk E f nt (.loop b) k) (ho : (IC.loop b).okL = true) (hrs : rsOf E f = rs) : KOk E nt rs (.code b.er :: .inLoop b.er :: k) (loopK f nt b) := by
  intro e t m h
  cases b with
  | pt i live c =>
    obtain ⟨h1, h2, h3⟩ := hm (i, live, .code c.er :: .inLoop (IC.pt i live c).er :: k) (by simp [mkL])
    show interp _ (goK f nt i live e) m = _
    rw [goK_eq h1 h2 h3 hrs h, go_step (k := .code _ :: .inLoop _ :: _) (t := t)]; rfl
  | _ => simp [IC.okL] at ho

theorem go_exit (id : Nat) (k : List AI) (t : List AV) (m : Mem) : go E (mdR rs) (.code (.exit id) :: k) t m = match aexit id k with | some k' => go E (mdR rs) k' t m | none => none := by
  rw [go_step]
  show (match aexit id k with | some k' => go E (mdR rs) k' t m | none => fin E.P (mdR rs) (some (.exit id)) t m) = _
  cases aexit id k with
  | some k' => rfl
  | none => unfold mdR; cases isDf rs <;> rfl
theorem compC_eq (hrs : rsOf E f = rs) : ∀ (c : IC) {k : List AI} {ex : List (Nat × (Ev → CM))} {K : Ev → CM}, MkOk E f nt c k → LpOk E f nt c k → c.okL = true → KOk E nt rs k K → ExOk E nt rs k ex →
    KOk E nt rs (.code c.er :: k) (compC (realO E) E.P f nt rs c ex K)
  | .skip, k, ex, K, hm, hl, ho, hK, hE => fun e t m h => by rw [go_step]; exact hK e t m h
  | .region id ops draw chk anc, k, ex, K, hm, hl, ho, hK, hE => fun e t m h => by
    rw [go_step]
    unfold compC
    cases draw with
    | true => exact dopsC_eq (E := E) (d := real E (Mq E) (Nq E)) ops hK ops chk [] 0 [] [] [] e t m .nil h (fun _ hi => by cases hi)
    | false =>
      show interp _ (match nextOf ops with | some (it, d, os) => _ | none => _) m = (match nextOf ops with | some (it, d, os) => _ | none => _)
      cases nextOf ops with
      | none => exact opsC_eq (E := E) (d := real E (Mq E) (Nq E)) ops hK ops [] e t m h (fun _ hi => by cases hi)
      | some x =>
        obtain ⟨it, dd, os⟩ := x
        refine evK_eq h it (F := fun x => nextR x m fun v m => opsK (run E) E.P ops os [] (aput t dd v) m fun t m => go E (mdR rs) k t m) fun x => ?_
        rw [interp_nxt]
        congr 1
        funext v m
        exact opsC_eq (E := E) (d := real E (Mq E) (Nq E)) ops hK os [] _ _ m (h.aput dd (.d v)) (fun _ hi => by cases hi)
  | .seq a b, k, ex, K, hm, hl, ho, hK, hE => fun e t m h => by
    rw [go_step]
    simp only [IC.okL, Bool.and_eq_true] at ho
    have hb := compC_eq hrs b (hm.sub fun x hx => by simp [mkL, hx]) (hl.sub fun x hx => by simp [lpL, hx]) ho.2 hK hE
    exact compC_eq hrs a (hm.sub fun x hx => by simp [mkL, hx]) (hl.sub fun x hx => by simp [lpL, hx]) ho.1 hb (hE.push fun _ => by simp) e t m h
  | .cond c x y, k, ex, K, hm, hl, ho, hK, hE => fun e t m h => by
    rw [go_step]
    simp only [IC.okL, Bool.and_eq_true] at ho
    have hx := compC_eq hrs x (hm.sub fun z hz => by simp [mkL, hz]) (hl.sub fun z hz => by simp [lpL, hz]) ho.1 hK hE e t m h
    have hy := compC_eq hrs y (hm.sub fun z hz => by simp [mkL, hz]) (hl.sub fun z hz => by simp [lpL, hz]) ho.2 hK hE e t m h
    refine evK_eq h c (F := fun v => condA v (go E (mdR rs) (.code x.er :: k) t m) (go E (mdR rs) (.code y.er :: k) t m)) fun v => ?_
    cases v with
    | c a =>
      cases a with
      | bool b => cases b with
        | true => exact hx
        | false => exact hy
      | _ => rfl
    | d a =>
      simp only [interp_cond, hx, hy]; rfl
  | .block id b, k, ex, K, hm, hl, ho, hK, hE => fun e t m h => by
    rw [go_step]
    exact compC_eq hrs b (k := .inBlock id :: k) hm hl ho (fun e t m h => by rw [go_step]; exact hK e t m h) (hE.block hK id) e t m h
  | .loop b, k, ex, K, hm, hl, ho, hK, hE => fun e t m h => by
    rw [go_step]
    exact loopK_eq hm ho hrs e t m h
  | .scope b, k, ex, K, hm, hl, ho, hK, hE => fun e t m h => by
    rw [go_step]
    exact compC_eq hrs b (k := .inScope b.er :: k) hm hl ho (fun e t m h => by rw [go_step]; exact hK e t m h) (hE.push fun _ => by simp) e t m h
  | .rangeFunc i fo ps a b, k, ex, K, hm, hl, ho, hK, hE => fun e t m h => by
    rw [go_step]
    obtain ⟨h1, h2, h3, h4⟩ := hl (i, (ps, a, b), k) (by simp [lpL])
    refine evK_eq h fo (F := fun fv => rangeK (run E) (mdR rs) fv ⟨.ready, none, t, ps, a, b⟩ m fun j m => go E (mdR rs) (pend j k) t m) fun fv => ?_
    rw [lsK_rel h, ← h.1, range_nth, interp_rng]
    show rangeK (run E) (mdR (rsOf E f)) fv.v (loopOf E f i t) m (fun j m => afterAt E ((4096 * f + i) / 4096) ((4096 * f + i) % 4096) j (spread (Nq E (4096 * f + i)) t) m) = _
    rw [(key_div h3).1, (key_div h3).2, h4, ← h.1, spread_all, hrs]
    have hlo : loopOf E f i t = ⟨.ready, none, t, ps, a, b⟩ := by unfold loopOf; rw [h2]
    rw [hlo]
    congr 1
    funext j m
    show go E (mdR (rsOf E f)) (pend j (kLoop E f i)) t m = _
    rw [hrs, h1]
  | .exit id, k, ex, K, hm, hl, ho, hK, hE => fun e t m h => (hE id e t m h).trans (go_exit id k t m).symm
  | .ret, k, ex, K, hm, hl, ho, hK, hE => fun e t m h => retK_eq h m k
  | .pt i live c, k, ex, K, hm, hl, ho, hK, hE => fun e t m h => by
    obtain ⟨h1, h2, h3⟩ := hm (i, live, .code c.er :: k) (by simp [mkL])
    rw [go_step]
    exact goK_eq h1 h2 h3 hrs h m
  | .other c, k, ex, K, hm, hl, ho, hK, hE => fun e t m h => by
    rw [go_step]
    cases c with
    | label l => exact hK e t m h
    | _ => rfl

theorem marksC_eq (hrs : rsOf E f = rs) : ∀ (c : IC) {k : List AI} {ex : List (Nat × (Ev → CM))} {K : Ev → CM}, MkOk E f nt c k → LpOk E f nt c k → c.okL = true → KOk E nt rs k K → ExOk E nt rs k ex →
    ∀ x ∈ marksC (realO E) E.P f nt rs c ex K, ∃ k', (x.1, x.2.1, k') ∈ mkL c k ∧ KOk E nt rs k' x.2.2
  | .skip, _, _, _, _, _, _, _, _, x, hx | .region .., _, _, _, _, _, _, _, _, x, hx | .exit _, _, _, _, _, _, _, _, _, x, hx | .ret, _, _, _, _, _, _, _, _, x, hx | .rangeFunc .., _, _, _, _, _, _, _, _, x, hx | .other _, _, _, _, _, _, _, _, _, x, hx => by simp [marksC] at hx
  | .pt i live c, k, ex, K, hm, hl, ho, hK, hE, x, hx => by
    simp only [IC.okL, Bool.and_eq_true] at ho
    have hm' : MkOk E f nt c k := hm.sub fun x hx => by simp [mkL, hx]
    simp only [marksC, List.mem_cons] at hx
    rcases hx with rfl | hx
    · exact ⟨.code c.er :: k, by simp [mkL], compC_eq hrs c hm' hl ho.2 hK hE⟩
    · obtain ⟨k', h1, h2⟩ := marksC_eq hrs c hm' hl ho.2 hK hE x hx
      exact ⟨k', by simp [mkL, h1], h2⟩
  | .seq a b, k, ex, K, hm, hl, ho, hK, hE, x, hx => by
    simp only [IC.okL, Bool.and_eq_true] at ho
    have hma : MkOk E f nt a (.code b.er :: k) := hm.sub fun x hx => by simp [mkL, hx]
    have hmb : MkOk E f nt b k := hm.sub fun x hx => by simp [mkL, hx]
    have hla : LpOk E f nt a (.code b.er :: k) := hl.sub fun x hx => by simp [lpL, hx]
    have hlb : LpOk E f nt b k := hl.sub fun x hx => by simp [lpL, hx]
    simp only [marksC, List.mem_append] at hx
    rcases hx with hx | hx
    · obtain ⟨k', h1, h2⟩ := marksC_eq hrs a hma hla ho.1 (compC_eq hrs b hmb hlb ho.2 hK hE) (hE.push fun _ => by simp) x hx
      exact ⟨k', by simp [mkL, h1], h2⟩
    · obtain ⟨k', h1, h2⟩ := marksC_eq hrs b hmb hlb ho.2 hK hE x hx
      exact ⟨k', by simp [mkL, h1], h2⟩
  | .cond _ a b, k, ex, K, hm, hl, ho, hK, hE, x, hx => by
    simp only [IC.okL, Bool.and_eq_true] at ho
    simp only [marksC, List.mem_append] at hx
    rcases hx with hx | hx
    · obtain ⟨k', h1, h2⟩ := marksC_eq hrs a (hm.sub fun x hx => by simp [mkL, hx]) (hl.sub fun x hx => by simp [lpL, hx]) ho.1 hK hE x hx
      exact ⟨k', by simp [mkL, h1], h2⟩
    · obtain ⟨k', h1, h2⟩ := marksC_eq hrs b (hm.sub fun x hx => by simp [mkL, hx]) (hl.sub fun x hx => by simp [lpL, hx]) ho.2 hK hE x hx
      exact ⟨k', by simp [mkL, h1], h2⟩
  | .block id b, k, ex, K, hm, hl, ho, hK, hE, x, hx => marksC_eq hrs b (k := .inBlock id :: k) hm hl ho (fun e t m h => by rw [go_step]; exact hK e t m h) (hE.block hK id) x hx
  | .loop b, k, ex, K, hm, hl, ho, hK, hE, x, hx => by
    have ho' : b.okL = true := by simp only [IC.okL, Bool.and_eq_true] at ho; exact ho.2
    exact marksC_eq hrs b (k := .inLoop b.er :: k) hm hl ho' (fun e t m h => by rw [go_step]; exact loopK_eq hm ho hrs e t m h) (hE.push fun _ => by simp) x hx
  | .scope b, k, ex, K, hm, hl, ho, hK, hE, x, hx => marksC_eq hrs b (k := .inScope b.er :: k) hm hl ho (fun e t m h => by rw [go_step]; exact hK e t m h) (hE.push fun _ => by simp) x hx

theorem loopsC_eq (hrs : rsOf E f = rs) : ∀ (c : IC) {k : List AI} {ex : List (Nat × (Ev → CM))} {K : Ev → CM}, MkOk E f nt c k → LpOk E f nt c k → c.okL = true → KOk E nt rs k K → ExOk E nt rs k ex →
    ∀ x ∈ loopsC (realO E) E.P f nt rs c ex K, ∃ k' p, (x.1, p, k') ∈ lpL c k ∧ KOk E nt rs k' x.2.1 ∧ ExOk E nt rs k' x.2.2
  | .skip, _, _, _, _, _, _, _, _, x, hx | .region .., _, _, _, _, _, _, _, _, x, hx | .exit _, _, _, _, _, _, _, _, _, x, hx | .ret, _, _, _, _, _, _, _, _, x, hx | .other _, _, _, _, _, _, _, _, _, x, hx => by simp [loopsC] at hx
  | .rangeFunc i _ ps a b, k, ex, K, hm, hl, ho, hK, hE, x, hx => by
    simp only [loopsC, List.mem_singleton] at hx
    subst hx
    exact ⟨k, (ps, a, b), by simp [lpL], hK, hE⟩
  | .pt i live c, k, ex, K, hm, hl, ho, hK, hE, x, hx => by
    simp only [IC.okL, Bool.and_eq_true] at ho
    exact loopsC_eq hrs c (hm.sub fun x hx => by simp [mkL, hx]) hl ho.2 hK hE x hx
  | .seq a b, k, ex, K, hm, hl, ho, hK, hE, x, hx => by
    simp only [IC.okL, Bool.and_eq_true] at ho
    have hma : MkOk E f nt a (.code b.er :: k) := hm.sub fun x hx => by simp [mkL, hx]
    have hmb : MkOk E f nt b k := hm.sub fun x hx => by simp [mkL, hx]
    have hla : LpOk E f nt a (.code b.er :: k) := hl.sub fun x hx => by simp [lpL, hx]
    have hlb : LpOk E f nt b k := hl.sub fun x hx => by simp [lpL, hx]
    simp only [loopsC, List.mem_append] at hx
    rcases hx with hx | hx
    · obtain ⟨k', p, h1, h2⟩ := loopsC_eq hrs a hma hla ho.1 (compC_eq hrs b hmb hlb ho.2 hK hE) (hE.push fun _ => by simp) x hx
      exact ⟨k', p, by simp [lpL, h1], h2⟩
    · obtain ⟨k', p, h1, h2⟩ := loopsC_eq hrs b hmb hlb ho.2 hK hE x hx
      exact ⟨k', p, by simp [lpL, h1], h2⟩
  | .cond _ a b, k, ex, K, hm, hl, ho, hK, hE, x, hx => by
    simp only [IC.okL, Bool.and_eq_true] at ho
    simp only [loopsC, List.mem_append] at hx
    rcases hx with hx | hx
    · obtain ⟨k', p, h1, h2⟩ := loopsC_eq hrs a (hm.sub fun x hx => by simp [mkL, hx]) (hl.sub fun x hx => by simp [lpL, hx]) ho.1 hK hE x hx
      exact ⟨k', p, by simp [lpL, h1], h2⟩
    · obtain ⟨k', p, h1, h2⟩ := loopsC_eq hrs b (hm.sub fun x hx => by simp [mkL, hx]) (hl.sub fun x hx => by simp [lpL, hx]) ho.2 hK hE x hx
      exact ⟨k', p, by simp [lpL, h1], h2⟩
  | .block id b, k, ex, K, hm, hl, ho, hK, hE, x, hx => loopsC_eq hrs b (k := .inBlock id :: k) hm hl ho (fun e t m h => by rw [go_step]; exact hK e t m h) (hE.block hK id) x hx
  | .loop b, k, ex, K, hm, hl, ho, hK, hE, x, hx => by
    have ho' : b.okL = true := by simp only [IC.okL, Bool.and_eq_true] at ho; exact ho.2
    exact loopsC_eq hrs b (k := .inLoop b.er :: k) hm hl ho' (fun e t m h => by rw [go_step]; exact loopK_eq hm ho hrs e t m h) (hE.push fun _ => by simp) x hx
  | .scope b, k, ex, K, hm, hl, ho, hK, hE, x, hx => loopsC_eq hrs b (k := .inScope b.er :: k) hm hl ho (fun e t m h => by rw [go_step]; exact hK e t m h) (hE.push fun _ => by simp) x hx

theorem apN_eq {d : Do} : ∀ {n : Nat} {F : List AV → CM} {g : List AV → Mem → R}, (∀ az, az.length = n → ∀ m, g az m = interp d (F az) m) → EqD d (apN n F) g
  | 0, F, g, h => zE fun m => h [] rfl m
  | n + 1, F, g, h => sE fun a => apN_eq fun az ha m => h (a :: az) (by simp [ha]) m

theorem envL_fnd : ∀ (az : List AV) (j i : Nat), (fnd i (envL j az)).v = if j ≤ i then nth az (i - j) else .undef
  | [], j, i => by
    show AV.undef = _
    split
    · exact (nth_ge (by simp)).symm
    · rfl
  | a :: az, j, i => by
    show (fnd i ((j, .d a) :: envL (j + 1) az)).v = _
    rw [fnd_cons]
    by_cases h : j = i
    · subst h; rw [if_pos rfl, if_pos (Nat.le_refl _), Nat.sub_self]; rfl
    · rw [if_neg h, envL_fnd az (j + 1) i]
      by_cases h2 : j ≤ i
      · rw [if_pos h2, if_pos (by omega), show i - j = (i - (j + 1)) + 1 by omega]; rfl
      · rw [if_neg h2, if_neg (by omega)]
theorem nth_undefs (az : List AV) (n i : Nat) : nth (az ++ List.replicate n .undef) i = nth az i := by
  rw [nth_eq, nth_eq, List.getD_eq_getElem?_getD, List.getD_eq_getElem?_getD]
  by_cases h : i < az.length
  · rw [List.getElem?_append_left h]
  · rw [List.getElem?_append_right (by omega), List.getElem?_eq_none (l := az) (by omega), List.getElem?_replicate]
    split <;> rfl
theorem envL_rel {az : List AV} (h : az.length ≤ nt) : Rel nt (envL 0 az) (az ++ List.replicate (nt - az.length) .undef) := by
  refine ⟨by simp; omega, fun i => ?_⟩
  rw [envL_fnd, if_pos (Nat.zero_le _), nth_undefs]; rfl
theorem envV_rel : ∀ (bs : List Bool) (j : Nat) (ts : List AV), ts.length = (liveL j bs).length → ∀ i, (fnd i (envV (liveL j bs) ts)).v = if j ≤ i then nth (spread bs ts) (i - j) else .undef
  | [], j, ts, h, i => by
    show AV.undef = _
    have : nth (spread [] ts) (i - j) = .undef := by cases ts <;> rfl
    rw [this]; split <;> rfl
  | true :: bs, j, [], h, i => by simp [liveL] at h
  | true :: bs, j, v :: ts, h, i => by
    show (fnd i ((j, .d v) :: envV (liveL (j + 1) bs) ts)).v = _
    rw [fnd_cons]
    by_cases hj : j = i
    · subst hj; rw [if_pos rfl, if_pos (Nat.le_refl _), Nat.sub_self]; rfl
    · rw [if_neg hj, envV_rel bs (j + 1) ts (by simpa [liveL] using h) i]
      by_cases h2 : j ≤ i
      · rw [if_pos h2, if_pos (by omega), show i - j = (i - (j + 1)) + 1 by omega]; rfl
      · rw [if_neg h2, if_neg (by omega)]
  | false :: bs, j, ts, h, i => by
    have hu : spread (false :: bs) ts = .undef :: spread bs ts := by cases ts <;> rfl
    show (fnd i (envV (liveL (j + 1) bs) ts)).v = _
    rw [envV_rel bs (j + 1) ts h i, hu]
    by_cases h2 : j + 1 ≤ i
    · rw [if_pos h2, if_pos (by omega), show i - j = (i - (j + 1)) + 1 by omega]; rfl
    · rw [if_neg h2]
      split
      · rw [show i - j = 0 by omega]; rfl
      · rfl
theorem spread_length : ∀ (bs : List Bool) (ts : List AV), (spread bs ts).length = bs.length
  | [], ts => by cases ts <;> rfl
  | true :: bs, v :: ts => by simp [spread, spread_length bs ts]
  | true :: bs, [] => by simp [spread, spread_length bs []]
  | false :: bs, ts => by
    have hu : spread (false :: bs) ts = .undef :: spread bs ts := by cases ts <;> rfl
    rw [hu]; simp [spread_length bs ts]

structure EntOk (E : Env) (f : Nat) (x : Ent) : Prop where
  fn : E.H f = none → isDf (rsOf E f) = false → EqD (real E (Mq E) (Nq E)) x.fn fun az m => run E (.fn f) az m
  gs : ∀ y ∈ x.gs, EqD (real E (Mq E) (Nq E)) y.2 fun ts m => goR E (Mq E) y.1 ts m
  ls : ∀ y ∈ x.ls, EqD (real E (Mq E) (Nq E)) y.2.1 (fun ts m => afR E (Nq E) y.1 none ts m) ∧ EqD (real E (Mq E) (Nq E)) y.2.2.1 (fun ts m => afR E (Nq E) y.1 (some .ret) ts m) ∧
    ∀ z ∈ y.2.2.2, EqD (real E (Mq E) (Nq E)) z.2 fun ts m => afR E (Nq E) y.1 (some (.exit z.1)) ts m

theorem entC_ok {c : AC} {na : Nat} (hB : E.B f = some (rs, nt, c)) (hna : na ≤ nt) (ho : (index c 0 0).okL = true) : EntOk E f (entC (realO E) E.P f nt rs na (index c 0 0)) := by
  have hrs : rsOf E f = rs := by unfold rsOf; rw [hB]
  have hc : codeOf E f = c := by unfold codeOf; rw [hB]
  have hnt : ntOf E f = nt := by unfold ntOf; rw [hB]
  have oks : ∀ (c : IC) (k : List AI), c.okL = true → (∀ x ∈ mkL c k, x.1 < 4096) ∧ ∀ x ∈ lpL c k, x.1 < 4096 := by
    intro c
    induction c with
    | pt i live c ih =>
      intro k ho
      simp only [IC.okL, Bool.and_eq_true] at ho
      refine ⟨fun x hx => ?_, fun x hx => (ih k ho.2).2 x hx⟩
      simp only [mkL, List.mem_cons] at hx
      rcases hx with rfl | hx
      · have := ho.1; rw [bltN] at this; exact of_decide_eq_true this
      · exact (ih k ho.2).1 x hx
    | seq a b iha ihb =>
      intro k ho
      simp only [IC.okL, Bool.and_eq_true] at ho
      refine ⟨fun x hx => ?_, fun x hx => ?_⟩
      · simp only [mkL, List.mem_append] at hx; exact hx.elim ((iha _ ho.1).1 x) ((ihb _ ho.2).1 x)
      · simp only [lpL, List.mem_append] at hx; exact hx.elim ((iha _ ho.1).2 x) ((ihb _ ho.2).2 x)
    | cond _ a b iha ihb =>
      intro k ho
      simp only [IC.okL, Bool.and_eq_true] at ho
      refine ⟨fun x hx => ?_, fun x hx => ?_⟩
      · simp only [mkL, List.mem_append] at hx; exact hx.elim ((iha _ ho.1).1 x) ((ihb _ ho.2).1 x)
      · simp only [lpL, List.mem_append] at hx; exact hx.elim ((iha _ ho.1).2 x) ((ihb _ ho.2).2 x)
    | block id b ih => exact fun k ho => ih (.inBlock id :: k) ho
    | scope b ih => exact fun k ho => ih (.inScope b.er :: k) ho
    | loop b ih =>
      intro k ho
      simp only [IC.okL, Bool.and_eq_true] at ho
      exact ih (.inLoop b.er :: k) ho.2
    | rangeFunc i fo ps a b =>
      intro k ho
      refine ⟨fun x hx => by simp [mkL] at hx, fun x hx => ?_⟩
      simp only [lpL, List.mem_singleton] at hx
      subst hx
      have : Nat.blt i 4096 = true := ho
      rw [bltN] at this; exact of_decide_eq_true this
    | _ => exact fun k _ => ⟨fun x hx => by simp [mkL] at hx, fun x hx => by simp [lpL] at hx⟩
  have hm : MkOk E f nt (index c 0 0) [] := fun x hx => by
    obtain ⟨i, h1, h2⟩ := mkL_index c 0 0 [] x hx
    have h1 : x.1 = i := by omega
    have h4 := (oks _ _ ho).1 x hx
    refine ⟨?_, h4, ?_⟩
    · unfold kAt; rw [hc, ← mksA_marks, List.getElem?_map, h1, h2]; rfl
    · unfold Mq; rw [(key_div h4).1, (key_div h4).2, hc, hnt, h1, h2]; rfl
  have hl : LpOk E f nt (index c 0 0) [] := fun x hx => by
    obtain ⟨i, h1, h2, h3⟩ := lpL_index c 0 0 [] x hx
    have h1 : x.1 = i := by omega
    have h4 := (oks _ _ ho).2 x hx
    refine ⟨?_, ?_, h4, ?_⟩
    · unfold kLoop; rw [hc, h1, h3]; rfl
    · rw [hc, h1]; exact h2
    · unfold Nq; rw [(key_div h4).1, hnt]
  have hK : KOk E nt rs [] fun e => retK (realO E) nt rs e := fun e t m h => retK_nil h m
  have hE : ExOk E nt rs [] [] := fun id e t m h => rfl
  refine ⟨fun hH hd => apN_eq fun az ha m => ?_, fun y hy => ?_, fun y hy => ?_⟩
  · rw [run_body hH hB]
    have := compC_eq hrs _ hm hl ho hK hE _ _ m (envL_rel (az := az) (nt := nt) (by omega))
    rw [index_er] at this
    rw [hrs] at hd
    have hmd : mdR rs = .fn rs := by unfold mdR; rw [hd]
    rw [hmd] at this
    exact this.symm
  · obtain ⟨x, hx, rfl⟩ := List.mem_map.1 hy
    obtain ⟨k', h1, h2⟩ := marksC_eq hrs _ hm hl ho hK hE x hx
    obtain ⟨h3, h4, h5⟩ := hm _ h1
    refine apN_eq fun ts ht m => ?_
    show go E (mdR (rsOf E ((4096 * f + x.1) / 4096))) (kAt E ((4096 * f + x.1) / 4096) ((4096 * f + x.1) % 4096)) (spread (Mq E (4096 * f + x.1)) ts) m = _
    rw [(key_div h4).1, (key_div h4).2, h5, h3, hrs]
    refine (h2 _ _ m ⟨?_, fun i => ?_⟩).symm
    · rw [spread_length, cutL_length]
    · rw [envV_rel _ 0 ts ht i, if_pos (Nat.zero_le _)]; rfl
  · obtain ⟨x, hx, rfl⟩ := List.mem_map.1 hy
    obtain ⟨k', p, h1, h2, h3⟩ := loopsC_eq hrs _ hm hl ho hK hE x hx
    obtain ⟨h4, _, h5, h6⟩ := hl _ h1
    have hrel : ∀ ts : List AV, ts.length = nt → Rel nt (envL 0 ts) ts := fun ts ht => by
      have := envL_rel (az := ts) (nt := nt) (by omega)
      rw [ht, Nat.sub_self, List.replicate_zero, List.append_nil] at this
      exact this
    have haf : ∀ (j : Option Jmp) (ts : List AV) (m : Mem), ts.length = nt → afR E (Nq E) (4096 * f + x.1) j ts m = go E (mdR rs) (pend j k') ts m := fun j ts m ht => by
      show go E (mdR (rsOf E ((4096 * f + x.1) / 4096))) (pend j (kLoop E ((4096 * f + x.1) / 4096) ((4096 * f + x.1) % 4096))) (spread (Nq E (4096 * f + x.1)) ts) m = _
      rw [(key_div h5).1, (key_div h5).2, h6, h4, hrs, ← ht, spread_all]
    refine ⟨apN_eq fun ts ht m => ?_, apN_eq fun ts ht m => ?_, fun z hz => ?_⟩
    · rw [haf none ts m ht]; exact (h2 _ _ m (hrel ts ht)).symm
    · rw [haf (some .ret) ts m ht]; exact (retK_eq (hrel ts ht) m k').symm
    · obtain ⟨y, hy, rfl⟩ := List.mem_map.1 hz
      refine apN_eq fun ts ht m => ?_
      rw [haf (some (.exit y.1)) ts m ht]
      exact (go_exit y.1 k' ts m).trans (h3 y.1 _ _ m (hrel ts ht)).symm
end
end Go.Abs
end
section
namespace Go.Abs
open Go

noncomputable def entX (O : Ops) (P : Program) (f : Nat) (fn : Func) (h : Hint) : Ent :=
  match fn.body with
  | some c => entC O P f fn.ntmps fn.results.toList (fn.params.size + fn.nfree) (index (annot c h) 0 0)
  | none => ⟨fun _ => .fail, [], []⟩
structure Tr (P : Program) (f : Nat) (fn : Func) (h : Hint) where
  x : Ops → Ent
  eq : ∀ O, x O = entX O P f fn h
structure En (P : Program) (B : FuncId → Option (List ResultVar × Nat × AC)) where
  f : Nat
  na : Nat
  rs : List ResultVar
  nt : Nat
  c : AC
  hB : B f = some (rs, nt, c)
  x : Ops → Ent
  eq : ∀ O, x O = entC O P f nt rs na (index c 0 0)
theorem bodyOf_eq {P : Program} {hints : FuncId → Option Hint} {f : Nat} {fn : Func} {h : Hint} {c : Code} (hf : P.funcs[f]? = some fn) (hh : hints f = some h) (hb : fn.body = some c) : bodyOf P hints f = some (fn.results.toList, fn.ntmps, annot c h) := by
  unfold bodyOf
  rw [hh, hf]
  simp only [hb]
def Tr.en {P : Program} {hints : FuncId → Option Hint} {f : Nat} {fn : Func} {h : Hint} {c : Code} (t : Tr P f fn h) (hf : P.funcs[f]? = some fn) (hh : hints f = some h) (hb : fn.body = some c) : En P (bodyOf P hints) :=
  ⟨f, fn.params.size + fn.nfree, fn.results.toList, fn.ntmps, annot c h, bodyOf_eq hf hh hb, t.x, fun O => by rw [t.eq]; unfold entX; rw [hb]⟩
def chkEn {P : Program} {B : FuncId → Option (List ResultVar × Nat × AC)} (e : En P B) : Bool := Nat.ble e.na e.nt && (index e.c 0 0).okL

section
variable {P : Program} {B : FuncId → Option (List ResultVar × Nat × AC)}
noncomputable abbrev EX (P : Program) (B : FuncId → Option (List ResultVar × Nat × AC)) (H : FuncId → Option (List AV → Mem → R)) : Env := ⟨P, B, H⟩
noncomputable abbrev OX (P : Program) (B : FuncId → Option (List ResultVar × Nat × AC)) : Ops := realO (EX P B fun _ => none)
noncomputable def En.t (e : En P B) : Ent := e.x (OX P B)
theorem En.ok (e : En P B) (hc : chkEn e = true) (H : FuncId → Option (List AV → Mem → R)) : EntOk (EX P B H) e.f e.t := by
  unfold chkEn at hc
  rw [Bool.and_eq_true] at hc
  show EntOk _ e.f (e.x (OX P B))
  rw [e.eq]
  exact entC_ok (E := EX P B H) e.hB (Nat.le_of_ble_eq_true hc.1) hc.2

def pickE {α : Type} (id : Nat) (l : List (Nat × α)) : Option α :=
  match l with
  | [] => none
  | (i, D) :: l => match Nat.beq i id with
    | true => some D
    | false => pickE id l
theorem pickE_mem {α : Type} {id : Nat} {D : α} : ∀ {l : List (Nat × α)}, pickE id l = some D → (id, D) ∈ l
  | [], h => by simp [pickE] at h
  | (i, D') :: l, h => by
    unfold pickE at h
    rw [beqN] at h
    by_cases e : i = id
    · rw [decide_eq_true e] at h
      cases h
      rw [e]; exact List.mem_cons_self
    · rw [decide_eq_false e] at h
      exact List.mem_cons_of_mem _ (pickE_mem h)
def pickJ (t : (List AV → CM) × (List AV → CM) × List (Nat × (List AV → CM))) : Option Jmp → Option (List AV → CM)
  | none => some t.1
  | some .ret => some t.2.1
  | some (.exit id) => pickE id t.2.2

noncomputable def getT (t : BT (En P B)) (f : Nat) : Option (En P B) := (t.find f).bind fun e => match Nat.beq e.f f with
  | true => some e
  | false => none
noncomputable def tbOf (t : BT (En P B)) : Tb where
  fn f := (getT t f).bind fun e => match isDf e.rs with
    | true => none
    | false => some e.t.fn
  gor k := (getT t (Nat.div k 4096)).bind fun e => pickE k e.t.gs
  afr k j := (getT t (Nat.div k 4096)).bind fun e => (pickE k e.t.ls).bind fun l => pickJ l j
noncomputable def Tb.less (T : Tb) (l : List Nat) : Tb := { T with fn := fun f => match l.contains f with
  | true => none
  | false => T.fn f }
noncomputable def BT.all {α : Type} (p : α → Bool) (t : BT α) : Bool := BT.rec (motive := fun _ => Bool) true (fun _ v _ _ l r => p v && (l && r)) t
theorem BT.find_all {α : Type} {p : α → Bool} {q : Nat} {v : α} : ∀ {t : BT α}, t.all p = true → t.find q = some v → p v = true
  | .leaf, _, h => by simp [BT.find] at h
  | .node k w l r, ha, h => by
    have hu : (BT.node k w l r).find q = Bool.rec (motive := fun _ => Option α) (Bool.rec (motive := fun _ => Option α) (r.find q) (l.find q) (Nat.ble q k)) (some w) (Nat.beq q k) := rfl
    have ha' : (p w && (l.all p && r.all p)) = true := ha
    rw [Bool.and_eq_true, Bool.and_eq_true] at ha'
    rw [hu] at h
    cases e : Nat.beq q k with
    | true => rw [e] at h; cases h; exact ha'.1
    | false =>
      rw [e] at h
      cases e2 : Nat.ble q k with
      | true => rw [e2] at h; exact BT.find_all ha'.2.1 h
      | false => rw [e2] at h; exact BT.find_all ha'.2.2 h
theorem getT_some {t : BT (En P B)} {f : Nat} {e : En P B} (h : getT t f = some e) : t.find f = some e ∧ e.f = f := by
  unfold getT at h
  obtain ⟨e', h1, h2⟩ := Option.bind_eq_some_iff.1 h
  rw [beqN] at h2
  by_cases hf : e'.f = f
  · rw [decide_eq_true hf] at h2; cases h2; exact ⟨h1, hf⟩
  · rw [decide_eq_false hf] at h2; cases h2
theorem tbOf_ok {t : BT (En P B)} (hc : t.all chkEn = true) {H : FuncId → Option (List AV → Mem → R)} (l : List Nat) (hH : ∀ f, ((tbOf t).less l).fn f ≠ none → H f = none) :
    ((tbOf t).less l).Ok (EX P B H) (Mq (EX P B H)) (Nq (EX P B H)) where
  fn := fun f D h => by
    have h0 := hH f (by rw [h]; exact fun h => by cases h)
    have h1 : (tbOf t).fn f = some D := by
      simp only [Tb.less] at h
      split at h
      · cases h
      · exact h
    obtain ⟨e, h2, h3⟩ := Option.bind_eq_some_iff.1 h1
    obtain ⟨h4, rfl⟩ := getT_some h2
    cases hd : isDf e.rs with
    | true => rw [hd] at h3; cases h3
    | false =>
      rw [hd] at h3; cases h3
      refine ((e.ok (BT.find_all (p := chkEn) hc h4) H).fn h0 ?_).le
      have hB := e.hB
      unfold rsOf
      show isDf (match B e.f with | some (rs, _, _) => rs | none => []) = false
      rw [hB]; exact hd
  gor := fun k D h => by
    obtain ⟨e, h2, h3⟩ := Option.bind_eq_some_iff.1 (show (getT t (Nat.div k 4096)).bind (fun e => pickE k e.t.gs) = some D from h)
    obtain ⟨h4, h5⟩ := getT_some h2
    exact ((e.ok (BT.find_all (p := chkEn) hc h4) H).gs _ (pickE_mem h3)).le
  afr := fun k j D h => by
    obtain ⟨e, h2, h3⟩ := Option.bind_eq_some_iff.1 (show (getT t (Nat.div k 4096)).bind (fun e => (pickE k e.t.ls).bind fun l => pickJ l j) = some D from h)
    obtain ⟨h4, h5⟩ := getT_some h2
    obtain ⟨x, h6, h7⟩ := Option.bind_eq_some_iff.1 h3
    obtain ⟨g1, g2, g3⟩ := (e.ok (BT.find_all (p := chkEn) hc h4) H).ls _ (pickE_mem h6)
    cases j with
    | none => simp only [pickJ, Option.some.injEq] at h7; subst h7; exact g1.le
    | some j =>
      cases j with
      | ret => simp only [pickJ, Option.some.injEq] at h7; subst h7; exact g2.le
      | exit id => exact (g3 _ (pickE_mem (show pickE id x.2.2 = some D from h7))).le
end
end Go.Abs
end
