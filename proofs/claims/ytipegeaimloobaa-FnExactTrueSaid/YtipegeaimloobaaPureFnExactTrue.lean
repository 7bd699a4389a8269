/- The pure statement of FnExactTrue: over numbers and lists, what the printed functions come to is what the law wants, for every input. -/
import Derived.Test.YtipegeaimloobaaPFnExactTruex1
set_option linter.unusedVariables false
set_option linter.unusedSimpArgs false
namespace Go.Proofs.Ytipegeaimloobaa.Pure
open Go.RowKit Go.Proofs.Ytipegeaimloobaa.PFnExactTrue Go.Proofs.YtipegeaimloobaaW.PrintWords Go.Proofs.YtipegeaimloobaaW.PrintLast
theorem FnExactTrue : laws_FnExactTrue.Pure := by
  intro s hs
  unfold laws_FnExactTrue.f spec_True.f impl_True.f
  split
  · rfl
  · split <;> simp

end Go.Proofs.Ytipegeaimloobaa.Pure
