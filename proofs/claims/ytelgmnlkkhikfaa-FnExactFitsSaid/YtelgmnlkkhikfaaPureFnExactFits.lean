/- The program's Fits returns what the reference's returns, for every int. -/
import Derived.Test.YtelgmnlkkhikfaaPFnExactFitsx1
namespace Go.Proofs.Ytelgmnlkkhikfaa.Pure
open Go.RowKit Go.Proofs.Ytelgmnlkkhikfaa.PFnExactFits Go.Proofs.YtelgmnlkkhikfaaW.PrintWords Go.Proofs.YtelgmnlkkhikfaaW.PrintLast Go.Proofs.YtelgmnlkkhikfaaW.PrintMore
set_option linter.unusedVariables false
set_option linter.unusedSimpArgs false

theorem spec_l1In_eq (a b c : Int) : spec_l1In.f a b c = some (decide (b ≤ a ∧ a ≤ c)) := by
  unfold spec_l1In.f
  by_cases h : a ≥ b
  · rw [if_pos h]; congr 1; rw [decide_eq_decide]; omega
  · rw [if_neg h]; congr 1; symm; rw [decide_eq_false_iff_not]; omega

theorem impl_within_eq (a b c : Int) : impl_within.f a b c = some (decide (b ≤ a ∧ a ≤ c)) := by
  unfold impl_within.f
  by_cases h : a ≥ b
  · rw [if_pos h]; congr 1; rw [decide_eq_decide]; omega
  · rw [if_neg h]; congr 1; symm; rw [decide_eq_false_iff_not]; omega

theorem FnExactFits : laws_FnExactFits.Pure := by
  intro n _
  unfold laws_FnExactFits.f spec_Fits.f impl_Fits.f
  rw [spec_l1In_eq, impl_within_eq]
  simp

end Go.Proofs.Ytelgmnlkkhikfaa.Pure
