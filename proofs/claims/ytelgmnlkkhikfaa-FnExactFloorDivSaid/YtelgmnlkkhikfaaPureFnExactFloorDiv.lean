/- The program's FloorDiv returns what the reference's returns, for all ints. -/
import Derived.Test.YtelgmnlkkhikfaaPFnExactFloorDivx1
namespace Go.Proofs.Ytelgmnlkkhikfaa.Pure
open Go.RowKit Go.Proofs.Ytelgmnlkkhikfaa.PFnExactFloorDiv Go.Proofs.YtelgmnlkkhikfaaW.PrintWords Go.Proofs.YtelgmnlkkhikfaaW.PrintLast Go.Proofs.YtelgmnlkkhikfaaW.PrintMore
set_option linter.unusedVariables false
set_option linter.unusedSimpArgs false

/-- FloorDiv. -/
def floorDiv (x y : Int) : Int := if y ≤ 0 then 0 else if Int.tmod x y < 0 then wrap64 (wrap64 (Int.tdiv x y) - 1) else wrap64 (Int.tdiv x y)

theorem spec_FloorDiv_eq (x y : Int) : spec_FloorDiv.f x y = some (floorDiv x y) := by
  unfold spec_FloorDiv.f floorDiv
  by_cases h : y ≤ 0
  · rw [if_pos h, if_pos h]
  · rw [if_neg h, if_neg h, if_neg (by omega)]; split <;> rfl

theorem impl_FloorDiv_eq (x y : Int) : impl_FloorDiv.f x y = some (floorDiv x y) := by
  unfold impl_FloorDiv.f floorDiv
  by_cases h : y ≤ 0
  · rw [if_pos h, if_pos h]
  · rw [if_neg h, if_neg h, if_neg (by omega)]; split <;> rfl

theorem FnExactFloorDiv : laws_FnExactFloorDiv.Pure := by
  intro x y _ _
  unfold laws_FnExactFloorDiv.f
  rw [spec_FloorDiv_eq, impl_FloorDiv_eq]
  simp

end Go.Proofs.Ytelgmnlkkhikfaa.Pure
