/- A law's steps, read in the world where it is called. -/
import Derived.Test.YtdmenbeiepfdiaaBagCt
import Derived.Test.YtdmenbeiepfdiaaMoves
namespace Go.Proofs.Ytdmenbeiepfdiaa
open Go Go.Abs

theorem arg_steps {W : World} {H : Type} {enc : TypeId × Value → H} {base : Nat} {v : Value} {d : DataW H} {p : List MemPlace} (h : Value.okWide Try.prog W .any base 42 v)
    (hr : DataW.Trod enc Try.prog W 0 (fun _ => true) true 42 v d p) : ∃ l, St (absM W) (absV W v) l := by
  rcases arg_slice Try.underlying42 h hr with h | ⟨a, len, cap, cs, h1, h2, h3, m, h4⟩
  · exact ⟨[], .inl ⟨_, _, _, _, h, rfl⟩⟩
  · have hn : Try.prog.cellsOf 47 = 3 := by kernel_rfl
    have hn3 : Try.prog.cellsOf 3 = 1 := by kernel_rfl
    have hn4 : Try.prog.cellsOf 4 = 1 := by kernel_rfl
    rw [hn] at h4
    have h5 : ∀ i, i < len → ∃ x : Int × Int × Bool, cs[a.o + i * 3]? = some (.int .i64 x.1) ∧ cs[a.o + i * 3 + 1]? = some (.int .i64 x.2.1) ∧ cs[a.o + i * 3 + 2]? = some (.bool x.2.2) := by
      intro i hi
      obtain ⟨h6, y, h7⟩ := h4 i (by omega)
      obtain ⟨m', h8, h9⟩ := trod_struct Try.underlying47 h7
      have hg : ∀ j, j < 3 → ((cs.drop (a.o + i * 3)).take 3)[j]? = cs[a.o + i * 3 + j]? := fun j hj => by rw [List.getElem?_take, if_pos hj, List.getElem?_drop]
      generalize (cs.drop (a.o + i * 3)).take 3 = c at h6 h9 hg
      match c, h6 with
      | [x, y, z], _ =>
        have g0 := hg 0 (by omega)
        have g1 := hg 1 (by omega)
        have g2 := hg 2 (by omega)
        obtain ⟨y0, q0⟩ := h9 _ (.head _)
        obtain ⟨y1, q1⟩ := h9 _ (.tail _ (.head _))
        obtain ⟨y2, q2⟩ := h9 _ (.tail _ (.tail _ (.head _)))
        simp only [hn3, hn4, List.drop_zero, List.drop_succ_cons, List.take_succ_cons, List.take_zero] at q0 q1 q2
        obtain ⟨n0, rfl, _⟩ := trod_int Try.underlying3 q0
        obtain ⟨n1, rfl, _⟩ := trod_int Try.underlying3 q1
        obtain ⟨n2, rfl⟩ := trod_bool Try.underlying4 q2
        exact ⟨(n0, n1, n2), by rw [← Nat.add_zero (a.o + i * 3), ← g0]; rfl, by rw [← g1]; rfl, by rw [← g2]; rfl⟩
    obtain ⟨f, hf⟩ := Go.Deep.choose_lt h5
    refine ⟨(List.range len).map f, .inr ⟨a, cap, cs.map (absP W), true, by simpa using h1, h3, ?_⟩⟩
    intro i hi
    have hi' : i < len := by simpa using hi
    obtain ⟨k1, k2, k3⟩ := hf i hi'
    simp only [List.getElem?_map, k1, k2, k3, Option.map_some, absP, List.getElem_map, List.getElem_range, and_self]
end Go.Proofs.Ytdmenbeiepfdiaa
