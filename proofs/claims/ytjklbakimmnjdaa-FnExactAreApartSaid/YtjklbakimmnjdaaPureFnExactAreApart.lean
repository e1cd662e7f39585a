/- For all whole numbers a and b the law on AreApart answers true. -/
import Derived.Test.YtjklbakimmnjdaaPFnExactAreApartx1
namespace Go.Proofs.Ytjklbakimmnjdaa.Pure
open Go.RowKit Go.Proofs.Ytjklbakimmnjdaa.PFnExactAreApart Go.Proofs.YtjklbakimmnjdaaW.PrintWords Go.Proofs.YtjklbakimmnjdaaW.PrintLast

theorem FnExactAreApart : laws_FnExactAreApart.Pure := by
  intro a b _ _
  unfold laws_FnExactAreApart.f spec_AreApart.f impl_AreApart.f spec_l1In.f impl_in.f
  by_cases h1 : 0 ≤ a <;> by_cases h2 : a ≤ 255 <;> by_cases h3 : 0 ≤ b <;> by_cases h4 : b ≤ 255 <;> simp [h1, h2, h3, h4]

end Go.Proofs.Ytjklbakimmnjdaa.Pure
