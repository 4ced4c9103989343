/- The program's MulLimited returns what the reference's returns, for all ints. -/
import Derived.Test.YtelgmnlkkhikfaaPFnExactMulLimitedx1
namespace Go.Proofs.Ytelgmnlkkhikfaa.Pure
open Go.RowKit Go.Proofs.Ytelgmnlkkhikfaa.PFnExactMulLimited Go.Proofs.YtelgmnlkkhikfaaW.PrintWords Go.Proofs.YtelgmnlkkhikfaaW.PrintLast Go.Proofs.YtelgmnlkkhikfaaW.PrintMore
set_option linter.unusedVariables false
set_option linter.unusedSimpArgs false

/-- From -MaxCoeff to MaxCoeff. -/
def okc (n : Int) : Bool := decide (-1000000000 ≤ n ∧ n ≤ 1000000000)
theorem okc_iff (n : Int) : okc n = true ↔ -1000000000 ≤ n ∧ n ≤ 1000000000 := by unfold okc; exact decide_eq_true_iff
theorem okc_false (n : Int) : okc n = false ↔ ¬ (-1000000000 ≤ n ∧ n ≤ 1000000000) := by unfold okc; exact decide_eq_false_iff_not

/-- MulLimited. -/
def mulLim (x y : Int) : Int × Bool := if okc x = true then (if okc y = true then (if okc (wrap64 (x * y)) = true then (wrap64 (x * y), true) else (0, false)) else (0, false)) else (0, false)

theorem spec_l1In_eq (a b c : Int) : spec_l1In.f a b c = some (decide (b ≤ a ∧ a ≤ c)) := by
  unfold spec_l1In.f
  by_cases h : a ≥ b
  · rw [if_pos h]; congr 1; rw [decide_eq_decide]; omega
  · rw [if_neg h]; congr 1; symm; rw [decide_eq_false_iff_not]; omega

theorem spec_l3In_eq (n : Int) : spec_l3In.f n = some (okc n) := by unfold spec_l3In.f; rw [spec_l1In_eq]; rfl

theorem spec_MulLimited_eq (x y : Int) : spec_MulLimited.f x y = some (mulLim x y) := by
  unfold spec_MulLimited.f mulLim; simp only [spec_l3In_eq, Option.bind_some]; repeat (split <;> try rfl)

theorem impl_within_eq (a b c : Int) : impl_within.f a b c = some (decide (b ≤ a ∧ a ≤ c)) := by
  unfold impl_within.f
  by_cases h : a ≥ b
  · rw [if_pos h]; congr 1; rw [decide_eq_decide]; omega
  · rw [if_neg h]; congr 1; symm; rw [decide_eq_false_iff_not]; omega

theorem impl_coeffOk_eq (n : Int) : impl_coeffOk.f n = some (okc n) := by unfold impl_coeffOk.f; rw [impl_within_eq]; rfl

theorem impl_MulLimited_eq (x y : Int) : impl_MulLimited.f x y = some (mulLim x y) := by
  unfold impl_MulLimited.f mulLim; simp only [impl_coeffOk_eq, Option.bind_some]; repeat (split <;> try rfl)

theorem FnExactMulLimited : laws_FnExactMulLimited.Pure := by
  intro x y _ _
  unfold laws_FnExactMulLimited.f
  rw [spec_MulLimited_eq, impl_MulLimited_eq]
  simp

end Go.Proofs.Ytelgmnlkkhikfaa.Pure
