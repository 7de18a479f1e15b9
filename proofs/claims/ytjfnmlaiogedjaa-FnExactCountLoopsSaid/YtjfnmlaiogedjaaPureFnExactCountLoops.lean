/- What is proved: the pure statement of the law FnExactCountLoops, about numbers and lists alone; no condition. -/
import Derived.Test.YtjfnmlaiogedjaaPx1
namespace Go.Proofs.Ytjfnmlaiogedjaa.Pure
open Go.RowKit Go.Proofs.Ytjfnmlaiogedjaa.P Go.Proofs.YtjfnmlaiogedjaaW.PrintWords Go.Proofs.YtjfnmlaiogedjaaW.PrintLast
set_option linter.unusedVariables false
set_option linter.unusedSimpArgs false

theorem FnExactCountLoops : laws_FnExactCountLoops.Pure := by
  intro a _
  by_cases h : 0 ≤ a ∧ a ≤ 8
  · have h3 : a = 0 ∨ a = 1 ∨ a = 2 ∨ a = 3 ∨ a = 4 ∨ a = 5 ∨ a = 6 ∨ a = 7 ∨ a = 8 := by omega
    refine ⟨100, ?_⟩
    rcases h3 with rfl | rfl | rfl | rfl | rfl | rfl | rfl | rfl | rfl <;> decide +kernel
  · refine ⟨1, ?_⟩
    unfold laws_FnExactCountLoops.f spec_CountLoops.f impl_CountLoops.f impl_isCrossings.f spec_l1In.f impl_within.f
    by_cases h0 : a ≥ 0
    · rw [if_pos h0, decide_eq_false (show ¬ a ≤ 8 by omega)]; rfl
    · rw [if_neg h0]; rfl

end Go.Proofs.Ytjfnmlaiogedjaa.Pure
