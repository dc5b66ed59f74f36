/- The program's Rate and the reference's tell the same, for all counts. No condition. -/
import Derived.Test.YtellflhmnbgikaaDFnExactRate
import Derived.Test.YtellflhmnbgikaaLm
namespace Go.Proofs.Ytellflhmnbgikaa.Pure
open Go.RowKit Go.Proofs.Ytellflhmnbgikaa.PFnExactRate Go.Proofs.YtellflhmnbgikaaW.PrintWords Go.Proofs.YtellflhmnbgikaaW.PrintLast Go.Proofs.YtellflhmnbgikaaW.PrintMore Go.Proofs.Ytellflhmnbgikaa.Lm
set_option linter.unusedSimpArgs false
set_option linter.unusedVariables false
theorem FnExactRate : DFnExactRate.Pure := by
  intro a b c d ha hb hc hd
  simp only [laws_FnExactRate.f, laws_toCount.f, spec_Rate.f, impl_Rate.f, impl_within.f, Option.bind_some]
  by_cases h1 : a < 1
  · simp [h1, show ¬ 1 ≤ a by omega]
  · by_cases h2 : a > 4294967295
    · simp [h1, h2, show 1 ≤ a by omega, show ¬ a ≤ 4294967295 by omega]
    · by_cases h3 : b < 0
      · simp [h1, h2, h3, show 1 ≤ a by omega, show a ≤ 4294967295 by omega, show ¬ 0 ≤ b by omega]
      · by_cases h4 : b > a
        · simp [h1, h2, h3, h4, show 1 ≤ a by omega, show a ≤ 4294967295 by omega, show 0 ≤ b by omega, show ¬ b ≤ a by omega]
        · simp [h1, h2, h3, h4, show 1 ≤ a by omega, show a ≤ 4294967295 by omega, show 0 ≤ b by omega, show b ≤ a by omega, show ¬ a = 0 by omega]
end Go.Proofs.Ytellflhmnbgikaa.Pure
