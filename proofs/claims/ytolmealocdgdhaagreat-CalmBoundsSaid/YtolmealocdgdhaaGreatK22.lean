/- Texts of one claim, put together. -/
import Derived.Test.YtolmealocdgdhaaGreatK21
section
namespace Go.Proofs.YtolmealocdgdhaaGreat
open Go Go.Abs
set_option maxRecDepth 20000
theorem known_run33 : ((XD EF TF 4000).call (.fn 33) [] (noM (GP Tryz.prog))).map (·.1) = some (.bool true) := by kernel_rfl
theorem known_runs33 : ∃ m', run EF (.fn 33) [] (noM (GP Tryz.prog)) = some (.bool true, m') := by
  have h := known_run33
  cases e : (XD EF TF 4000).call (.fn 33) [] (noM (GP Tryz.prog)) with
  | none => rw [e] at h; cases h
  | some r =>
    rw [e] at h
    obtain ⟨v, m'⟩ := r
    simp only [Option.map_some, Option.some.injEq] at h
    subst h
    exact ⟨m', run_of_X (E := EF) F_ok 4000 e⟩
end Go.Proofs.YtolmealocdgdhaaGreat
end
