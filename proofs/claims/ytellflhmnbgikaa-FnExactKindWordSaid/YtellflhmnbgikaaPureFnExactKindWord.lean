/- The program's KindWord and the reference's tell the same, for all kinds. No condition. -/
import Derived.Test.YtellflhmnbgikaaPFnExactKindWordx1
import Derived.Test.YtellflhmnbgikaaLm
namespace Go.Proofs.Ytellflhmnbgikaa.Pure
open Go.RowKit Go.Proofs.Ytellflhmnbgikaa.PFnExactKindWord Go.Proofs.YtellflhmnbgikaaW.PrintWords Go.Proofs.YtellflhmnbgikaaW.PrintLast Go.Proofs.YtellflhmnbgikaaW.PrintMore Go.Proofs.Ytellflhmnbgikaa.Lm
set_option linter.unusedSimpArgs false
set_option linter.unusedVariables false
theorem FnExactKindWord : laws_FnExactKindWord.Pure := by
  intro a ha
  by_cases h1 : a < 1
  · simp [laws_FnExactKindWord.f, spec_KindWord.f, impl_KindWord.f, h1, show ¬ a = 1 by omega, show ¬ a = 2 by omega, show ¬ a = 3 by omega]
  · by_cases h3 : a > 3
    · simp [laws_FnExactKindWord.f, spec_KindWord.f, impl_KindWord.f, h1, h3, show ¬ a = 1 by omega, show ¬ a = 2 by omega, show ¬ a = 3 by omega]
    · obtain rfl | rfl | rfl : a = 1 ∨ a = 2 ∨ a = 3 := by omega
      all_goals decide +kernel
end Go.Proofs.Ytellflhmnbgikaa.Pure
