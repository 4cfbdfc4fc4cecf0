/- A new table. -/
import Derived.Test.YtlginbmjiecglaaIs
import Derived.Test.YtlginbmjiecglaaAbs30
namespace Go.Proofs.Ytlginbmjiecglaa
open Go Go.Abs
/-- A new table. -/
theorem newQ_is (m : Mem) {most : Int} (h1 : 1 ≤ most) (h2 : most ≤ 4096) : ∃ m', run E2 (.fn 10) [.int .i64 most] m = some (.tup [.ptr (some ⟨m.next, 0⟩), .int .i64 0], m') ∧ m' = m.lay (.cells [.sl none 0 0 0 true, .sl none 0 0 0 true, .int .i64 most] false) := by
  refine ⟨_, ?_, rfl⟩
  simp only [f10_is, T.f10, apS_cons, ap0_nil, D2_call, Option.bind_some, interp_pu, interp_ifv, interp_ret, interp_cond, interp_go, p2, bin_gtr, bin_lss, bin_slss, condA, ifV, decide_eq_false (show ¬ most < 1 by omega), decide_eq_false (show ¬ (4096 : Int) < most by omega)]
  simp only [g10_0_is, T.g10_0, apS_cons, ap0_nil, D2_call, Option.bind_some, interp_pu, interp_al, interp_ret, p1, fillA, AV.cells, List.take_succ_cons, List.take_zero, List.drop_succ_cons, List.drop_zero, List.cons_append, List.nil_append, List.append_nil, List.length_cons, List.length_nil, Option.map_some, Nat.zero_add, Nat.reduceAdd, Nat.reduceLeDiff, if_true, List.getElem?_cons_zero, List.getElem?_cons_succ, boxA, bd71, List.all_cons, List.all_nil, AV.one, Bool.and_self, Bool.and_true]

end Go.Proofs.Ytlginbmjiecglaa
