-- Made by a program of this claim's own (wip/print): not the kit's print as it stands.
import Derived.Test.YtghiljjkaiggfaaUFnCombinedTri
import Derived.Test.YtghiljjkaiggfaaQFnCombinedx0
import Derived.Test.YtghiljjkaiggfaaQFnCombinedx3
import Derived.Test.YtghiljjkaiggfaaQFnCombinedx4
import Derived.Test.YtghiljjkaiggfaaQFnCombinedx6
import Derived.Test.YtghiljjkaiggfaaQFnCombinedx7
import Derived.Test.YtghiljjkaiggfaaQFnCombinedx8
import Derived.Test.YtghiljjkaiggfaaQFnCombinedx12
namespace Go.Proofs.Ytghiljjkaiggfaa.QFnCombined
open Go.RowKit Go.Proofs.YtghiljjkaiggfaaV.PrintWords Go.Proofs.YtghiljjkaiggfaaV.PrintLast Go.Proofs.YtghiljjkaiggfaaV.PrintMore
attribute [local go_sem] max2_int min2_int max_two min_two max_three min_three max_four min_four   -- for this text's walks alone
set_option linter.unusedVariables false
set_option linter.unusedSimpArgs false

/-! ### laws_FnCombined: function 7 -/
mutual
def laws_FnCombined.j0 : Nat → List Int → Bool → Bool → Int → List (S36) → Int → List Int → Option (Bool)
 | 0, _, _, _, _, _, _, _ => none
 | k + 1, x0, x6, x51, x480000, x480001, x486000, x486001 => if x51 = true then (some false) else (laws_FnCombined.l0 k x0 x6 (([] : List Int)) 0 x480000 x480001 x486000 x486001)
def laws_FnCombined.l0 : Nat → List Int → Bool → List Int → Int → Int → List (S36) → Int → List Int → Option (Bool)
 | 0, _, _, _, _, _, _, _, _ => none
 | k + 1, x0, x6, x9, x10, x480000, x480001, x486000, x486001 => if x10 < x480000 then ((laws_at0.f x0 x10).bind fun t498 => (if x9.length < 17592186044416 then (laws_FnCombined.l0 k x0 x6 (x9 ++ [wrap64 ((Int.tmod t498 14) - 4)]) (wrap64 (x10 + 1)) x480000 x480001 x486000 x486001) else (none))) else ((spec_EvalLin.f k x486000 x486001 x9).bind fun bt502 => (if x6 = true then ((spec_Satisfies.f k x480000 x480001 x9).bind fun t504 => (if t504 = true then (laws_FnCombined.j2 k x0 (decide (bt502.1 < 0))) else (laws_FnCombined.j2 k x0 false))) else (laws_FnCombined.j2 k x0 false)))
def laws_FnCombined.j2 : Nat → List Int → Bool → Option (Bool)
 | 0, _, _ => none
 | k + 1, x0, x82 => if x82 = true then (some false) else ((spec_DrawCheckEmpty.f k x0).bind fun bt505 => ((impl_CheckEmpty.f k bt505.1 bt505.2.1 bt505.2.2).bind fun t513 => ((spec_CheckEmpty.f k bt505.1 bt505.2.1 bt505.2.2).bind fun t514 => (if (t513 != t514) = true then (some false) else (laws_FnCombined.l1 k t513 (-6) bt505.1 bt505.2.1)))))
def laws_FnCombined.l1 : Nat → Bool → Int → Int → List (S36) → Option (Bool)
 | 0, _, _, _, _ => none
 | k + 1, x15, x16, x513000, x513001 => if x16 < 7 then (laws_FnCombined.j4 k x15 x16 x15 x513000 x513001) else (laws_FnCombined.j4 k x15 x16 false x513000 x513001)
def laws_FnCombined.j4 : Nat → Bool → Int → Bool → Int → List (S36) → Option (Bool)
 | 0, _, _, _, _, _ => none
 | k + 1, x15, x16, x100, x513000, x513001 => if x100 = true then ((spec_Satisfies.f k x513000 x513001 (([x16] : List Int))).bind fun t518 => (if t518 = true then (some false) else (laws_FnCombined.l1 k x15 (wrap64 (x16 + 1)) x513000 x513001))) else (some true)
end
def laws_FnCombined.f (k : Nat) (l0 : List Int) : Option (Bool) := (laws_big.f l0).bind fun t471 => (if t471 = true then (some true) else ((spec_DrawCombineRows.f k l0).bind fun bt472 => ((impl_CombineRows.f k bt472.1 bt472.2.1 bt472.2.2).bind fun bt480 => ((spec_CombineRows.f k bt472.1 bt472.2.1 bt472.2.2).bind fun bt486 => (if (bt480.2.2 != bt486.2.2) = true then (laws_FnCombined.j0 k l0 bt480.2.2 true bt472.1 bt472.2.1 bt480.1 bt480.2.1) else ((spec_EqualLin.f k bt480.1 bt480.2.1 bt486.1 bt486.2.1).bind fun t492 => (if t492 = true then ((impl_IsConstant.f k bt480.1 bt480.2.1).bind fun t493 => ((spec_IsConstant.f k bt480.1 bt480.2.1).bind fun t494 => (laws_FnCombined.j0 k l0 bt480.2.2 (t493 != t494) bt472.1 bt472.2.1 bt480.1 bt480.2.1))) else (laws_FnCombined.j0 k l0 bt480.2.2 true bt472.1 bt472.2.1 bt480.1 bt480.2.1))))))))
theorem laws_FnCombined.mono_l : ∀ k, (∀ y0 y1 y2 y3 y4 y5 y6, LeO (laws_FnCombined.j0 k y0 y1 y2 y3 y4 y5 y6) (laws_FnCombined.j0 (k + 1) y0 y1 y2 y3 y4 y5 y6)) ∧ (∀ y0 y1 y2 y3 y4 y5 y6 y7, LeO (laws_FnCombined.l0 k y0 y1 y2 y3 y4 y5 y6 y7) (laws_FnCombined.l0 (k + 1) y0 y1 y2 y3 y4 y5 y6 y7)) ∧ (∀ y0 y1, LeO (laws_FnCombined.j2 k y0 y1) (laws_FnCombined.j2 (k + 1) y0 y1)) ∧ (∀ y0 y1 y2 y3, LeO (laws_FnCombined.l1 k y0 y1 y2 y3) (laws_FnCombined.l1 (k + 1) y0 y1 y2 y3)) ∧ (∀ y0 y1 y2 y3 y4, LeO (laws_FnCombined.j4 k y0 y1 y2 y3 y4) (laws_FnCombined.j4 (k + 1) y0 y1 y2 y3 y4))
 | 0 => ⟨fun _ _ _ _ _ _ _ r h => by simp [laws_FnCombined.j0] at h, fun _ _ _ _ _ _ _ _ r h => by simp [laws_FnCombined.l0] at h, fun _ _ r h => by simp [laws_FnCombined.j2] at h, fun _ _ _ _ r h => by simp [laws_FnCombined.l1] at h, fun _ _ _ _ _ r h => by simp [laws_FnCombined.j4] at h⟩
 | k + 1 => by
  obtain ⟨ih0, ih1, ih2, ih3, ih4⟩ := laws_FnCombined.mono_l k
  refine ⟨?_, ?_, ?_, ?_, ?_⟩
  ·intro y0 y1 y2 y3 y4 y5 y6
   unfold laws_FnCombined.j0
   repeat' first
   | (with_reducible exact ih0 _ _ _ _ _ _ _)
   | (with_reducible exact ih1 _ _ _ _ _ _ _ _)
   | (with_reducible exact ih2 _ _)
   | (with_reducible exact ih3 _ _ _ _)
   | (with_reducible exact ih4 _ _ _ _ _)
   | (with_reducible exact impl_CheckEmpty.mono _ _ _ _)
   | (with_reducible exact impl_CombineRows.mono _ _ _ _)
   | (with_reducible exact impl_IsConstant.mono _ _ _)
   | (with_reducible exact spec_CheckEmpty.mono _ _ _ _)
   | (with_reducible exact spec_CombineRows.mono _ _ _ _)
   | (with_reducible exact spec_DrawCheckEmpty.mono _ _)
   | (with_reducible exact spec_DrawCombineRows.mono _ _)
   | (with_reducible exact spec_EqualLin.mono _ _ _ _ _)
   | (with_reducible exact spec_EvalLin.mono _ _ _ _)
   | (with_reducible exact spec_IsConstant.mono _ _ _)
   | (with_reducible exact spec_Satisfies.mono _ _ _ _)
   | (with_reducible exact LeO.refl _)
   | (with_reducible exact LeO.none _)
   | (with_reducible refine LeO.ite ?_ ?_)
   | (with_reducible refine LeO.bind ?_ (fun _ => ?_))
   | exact ih0 _ _ _ _ _ _ _
   | exact ih1 _ _ _ _ _ _ _ _
   | exact ih2 _ _
   | exact ih3 _ _ _ _
   | exact ih4 _ _ _ _ _
   | exact impl_CheckEmpty.mono _ _ _ _
   | exact impl_CombineRows.mono _ _ _ _
   | exact impl_IsConstant.mono _ _ _
   | exact spec_CheckEmpty.mono _ _ _ _
   | exact spec_CombineRows.mono _ _ _ _
   | exact spec_DrawCheckEmpty.mono _ _
   | exact spec_DrawCombineRows.mono _ _
   | exact spec_EqualLin.mono _ _ _ _ _
   | exact spec_EvalLin.mono _ _ _ _
   | exact spec_IsConstant.mono _ _ _
   | exact spec_Satisfies.mono _ _ _ _
   | exact LeO.none _
   | refine LeO.ite ?_ ?_
   | refine LeO.bind ?_ (fun _ => ?_)
  ·intro y0 y1 y2 y3 y4 y5 y6 y7
   unfold laws_FnCombined.l0
   repeat' first
   | (with_reducible exact ih0 _ _ _ _ _ _ _)
   | (with_reducible exact ih1 _ _ _ _ _ _ _ _)
   | (with_reducible exact ih2 _ _)
   | (with_reducible exact ih3 _ _ _ _)
   | (with_reducible exact ih4 _ _ _ _ _)
   | (with_reducible exact impl_CheckEmpty.mono _ _ _ _)
   | (with_reducible exact impl_CombineRows.mono _ _ _ _)
   | (with_reducible exact impl_IsConstant.mono _ _ _)
   | (with_reducible exact spec_CheckEmpty.mono _ _ _ _)
   | (with_reducible exact spec_CombineRows.mono _ _ _ _)
   | (with_reducible exact spec_DrawCheckEmpty.mono _ _)
   | (with_reducible exact spec_DrawCombineRows.mono _ _)
   | (with_reducible exact spec_EqualLin.mono _ _ _ _ _)
   | (with_reducible exact spec_EvalLin.mono _ _ _ _)
   | (with_reducible exact spec_IsConstant.mono _ _ _)
   | (with_reducible exact spec_Satisfies.mono _ _ _ _)
   | (with_reducible exact LeO.refl _)
   | (with_reducible exact LeO.none _)
   | (with_reducible refine LeO.ite ?_ ?_)
   | (with_reducible refine LeO.bind ?_ (fun _ => ?_))
   | exact ih0 _ _ _ _ _ _ _
   | exact ih1 _ _ _ _ _ _ _ _
   | exact ih2 _ _
   | exact ih3 _ _ _ _
   | exact ih4 _ _ _ _ _
   | exact impl_CheckEmpty.mono _ _ _ _
   | exact impl_CombineRows.mono _ _ _ _
   | exact impl_IsConstant.mono _ _ _
   | exact spec_CheckEmpty.mono _ _ _ _
   | exact spec_CombineRows.mono _ _ _ _
   | exact spec_DrawCheckEmpty.mono _ _
   | exact spec_DrawCombineRows.mono _ _
   | exact spec_EqualLin.mono _ _ _ _ _
   | exact spec_EvalLin.mono _ _ _ _
   | exact spec_IsConstant.mono _ _ _
   | exact spec_Satisfies.mono _ _ _ _
   | exact LeO.none _
   | refine LeO.ite ?_ ?_
   | refine LeO.bind ?_ (fun _ => ?_)
  ·intro y0 y1
   unfold laws_FnCombined.j2
   repeat' first
   | (with_reducible exact ih0 _ _ _ _ _ _ _)
   | (with_reducible exact ih1 _ _ _ _ _ _ _ _)
   | (with_reducible exact ih2 _ _)
   | (with_reducible exact ih3 _ _ _ _)
   | (with_reducible exact ih4 _ _ _ _ _)
   | (with_reducible exact impl_CheckEmpty.mono _ _ _ _)
   | (with_reducible exact impl_CombineRows.mono _ _ _ _)
   | (with_reducible exact impl_IsConstant.mono _ _ _)
   | (with_reducible exact spec_CheckEmpty.mono _ _ _ _)
   | (with_reducible exact spec_CombineRows.mono _ _ _ _)
   | (with_reducible exact spec_DrawCheckEmpty.mono _ _)
   | (with_reducible exact spec_DrawCombineRows.mono _ _)
   | (with_reducible exact spec_EqualLin.mono _ _ _ _ _)
   | (with_reducible exact spec_EvalLin.mono _ _ _ _)
   | (with_reducible exact spec_IsConstant.mono _ _ _)
   | (with_reducible exact spec_Satisfies.mono _ _ _ _)
   | (with_reducible exact LeO.refl _)
   | (with_reducible exact LeO.none _)
   | (with_reducible refine LeO.ite ?_ ?_)
   | (with_reducible refine LeO.bind ?_ (fun _ => ?_))
   | exact ih0 _ _ _ _ _ _ _
   | exact ih1 _ _ _ _ _ _ _ _
   | exact ih2 _ _
   | exact ih3 _ _ _ _
   | exact ih4 _ _ _ _ _
   | exact impl_CheckEmpty.mono _ _ _ _
   | exact impl_CombineRows.mono _ _ _ _
   | exact impl_IsConstant.mono _ _ _
   | exact spec_CheckEmpty.mono _ _ _ _
   | exact spec_CombineRows.mono _ _ _ _
   | exact spec_DrawCheckEmpty.mono _ _
   | exact spec_DrawCombineRows.mono _ _
   | exact spec_EqualLin.mono _ _ _ _ _
   | exact spec_EvalLin.mono _ _ _ _
   | exact spec_IsConstant.mono _ _ _
   | exact spec_Satisfies.mono _ _ _ _
   | exact LeO.none _
   | refine LeO.ite ?_ ?_
   | refine LeO.bind ?_ (fun _ => ?_)
  ·intro y0 y1 y2 y3
   unfold laws_FnCombined.l1
   repeat' first
   | (with_reducible exact ih0 _ _ _ _ _ _ _)
   | (with_reducible exact ih1 _ _ _ _ _ _ _ _)
   | (with_reducible exact ih2 _ _)
   | (with_reducible exact ih3 _ _ _ _)
   | (with_reducible exact ih4 _ _ _ _ _)
   | (with_reducible exact impl_CheckEmpty.mono _ _ _ _)
   | (with_reducible exact impl_CombineRows.mono _ _ _ _)
   | (with_reducible exact impl_IsConstant.mono _ _ _)
   | (with_reducible exact spec_CheckEmpty.mono _ _ _ _)
   | (with_reducible exact spec_CombineRows.mono _ _ _ _)
   | (with_reducible exact spec_DrawCheckEmpty.mono _ _)
   | (with_reducible exact spec_DrawCombineRows.mono _ _)
   | (with_reducible exact spec_EqualLin.mono _ _ _ _ _)
   | (with_reducible exact spec_EvalLin.mono _ _ _ _)
   | (with_reducible exact spec_IsConstant.mono _ _ _)
   | (with_reducible exact spec_Satisfies.mono _ _ _ _)
   | (with_reducible exact LeO.refl _)
   | (with_reducible exact LeO.none _)
   | (with_reducible refine LeO.ite ?_ ?_)
   | (with_reducible refine LeO.bind ?_ (fun _ => ?_))
   | exact ih0 _ _ _ _ _ _ _
   | exact ih1 _ _ _ _ _ _ _ _
   | exact ih2 _ _
   | exact ih3 _ _ _ _
   | exact ih4 _ _ _ _ _
   | exact impl_CheckEmpty.mono _ _ _ _
   | exact impl_CombineRows.mono _ _ _ _
   | exact impl_IsConstant.mono _ _ _
   | exact spec_CheckEmpty.mono _ _ _ _
   | exact spec_CombineRows.mono _ _ _ _
   | exact spec_DrawCheckEmpty.mono _ _
   | exact spec_DrawCombineRows.mono _ _
   | exact spec_EqualLin.mono _ _ _ _ _
   | exact spec_EvalLin.mono _ _ _ _
   | exact spec_IsConstant.mono _ _ _
   | exact spec_Satisfies.mono _ _ _ _
   | exact LeO.none _
   | refine LeO.ite ?_ ?_
   | refine LeO.bind ?_ (fun _ => ?_)
  ·intro y0 y1 y2 y3 y4
   unfold laws_FnCombined.j4
   repeat' first
   | (with_reducible exact ih0 _ _ _ _ _ _ _)
   | (with_reducible exact ih1 _ _ _ _ _ _ _ _)
   | (with_reducible exact ih2 _ _)
   | (with_reducible exact ih3 _ _ _ _)
   | (with_reducible exact ih4 _ _ _ _ _)
   | (with_reducible exact impl_CheckEmpty.mono _ _ _ _)
   | (with_reducible exact impl_CombineRows.mono _ _ _ _)
   | (with_reducible exact impl_IsConstant.mono _ _ _)
   | (with_reducible exact spec_CheckEmpty.mono _ _ _ _)
   | (with_reducible exact spec_CombineRows.mono _ _ _ _)
   | (with_reducible exact spec_DrawCheckEmpty.mono _ _)
   | (with_reducible exact spec_DrawCombineRows.mono _ _)
   | (with_reducible exact spec_EqualLin.mono _ _ _ _ _)
   | (with_reducible exact spec_EvalLin.mono _ _ _ _)
   | (with_reducible exact spec_IsConstant.mono _ _ _)
   | (with_reducible exact spec_Satisfies.mono _ _ _ _)
   | (with_reducible exact LeO.refl _)
   | (with_reducible exact LeO.none _)
   | (with_reducible refine LeO.ite ?_ ?_)
   | (with_reducible refine LeO.bind ?_ (fun _ => ?_))
   | exact ih0 _ _ _ _ _ _ _
   | exact ih1 _ _ _ _ _ _ _ _
   | exact ih2 _ _
   | exact ih3 _ _ _ _
   | exact ih4 _ _ _ _ _
   | exact impl_CheckEmpty.mono _ _ _ _
   | exact impl_CombineRows.mono _ _ _ _
   | exact impl_IsConstant.mono _ _ _
   | exact spec_CheckEmpty.mono _ _ _ _
   | exact spec_CombineRows.mono _ _ _ _
   | exact spec_DrawCheckEmpty.mono _ _
   | exact spec_DrawCombineRows.mono _ _
   | exact spec_EqualLin.mono _ _ _ _ _
   | exact spec_EvalLin.mono _ _ _ _
   | exact spec_IsConstant.mono _ _ _
   | exact spec_Satisfies.mono _ _ _ _
   | exact LeO.none _
   | refine LeO.ite ?_ ?_
   | refine LeO.bind ?_ (fun _ => ?_)
theorem laws_FnCombined.mono : ∀ a0 k, LeO (laws_FnCombined.f k a0) (laws_FnCombined.f (k + 1) a0) := by
 intro a0 k
 obtain ⟨ih0, ih1, ih2, ih3, ih4⟩ := laws_FnCombined.mono_l k
 unfold laws_FnCombined.f
 repeat' first
   | (with_reducible exact ih0 _ _ _ _ _ _ _)
   | (with_reducible exact ih1 _ _ _ _ _ _ _ _)
   | (with_reducible exact ih2 _ _)
   | (with_reducible exact ih3 _ _ _ _)
   | (with_reducible exact ih4 _ _ _ _ _)
   | (with_reducible exact impl_CheckEmpty.mono _ _ _ _)
   | (with_reducible exact impl_CombineRows.mono _ _ _ _)
   | (with_reducible exact impl_IsConstant.mono _ _ _)
   | (with_reducible exact spec_CheckEmpty.mono _ _ _ _)
   | (with_reducible exact spec_CombineRows.mono _ _ _ _)
   | (with_reducible exact spec_DrawCheckEmpty.mono _ _)
   | (with_reducible exact spec_DrawCombineRows.mono _ _)
   | (with_reducible exact spec_EqualLin.mono _ _ _ _ _)
   | (with_reducible exact spec_EvalLin.mono _ _ _ _)
   | (with_reducible exact spec_IsConstant.mono _ _ _)
   | (with_reducible exact spec_Satisfies.mono _ _ _ _)
   | (with_reducible exact LeO.refl _)
   | (with_reducible exact LeO.none _)
   | (with_reducible refine LeO.ite ?_ ?_)
   | (with_reducible refine LeO.bind ?_ (fun _ => ?_))
   | exact ih0 _ _ _ _ _ _ _
   | exact ih1 _ _ _ _ _ _ _ _
   | exact ih2 _ _
   | exact ih3 _ _ _ _
   | exact ih4 _ _ _ _ _
   | exact impl_CheckEmpty.mono _ _ _ _
   | exact impl_CombineRows.mono _ _ _ _
   | exact impl_IsConstant.mono _ _ _
   | exact spec_CheckEmpty.mono _ _ _ _
   | exact spec_CombineRows.mono _ _ _ _
   | exact spec_DrawCheckEmpty.mono _ _
   | exact spec_DrawCombineRows.mono _ _
   | exact spec_EqualLin.mono _ _ _ _ _
   | exact spec_EvalLin.mono _ _ _ _
   | exact spec_IsConstant.mono _ _ _
   | exact spec_Satisfies.mono _ _ _ _
   | exact LeO.none _
   | refine LeO.ite ?_ ?_
   | refine LeO.bind ?_ (fun _ => ?_)
def laws_FnCombined.T6 : Bool × List (List Nat × List Nat) := (true, [([], []), ([], []), ([0, 1], [0, 1]), ([2], [2]), ([3], [3]), ([3], [3]), ([4, 5, 3, 3], [3, 4, 5]), ([6, 3], [3, 6]), ([3, 7], [3, 7]), ([8, 6], [8]), ([9], [9]), ([10, 9, 9], [9, 10]), ([9], [9]), ([12, 11, 9], [9, 12]), ([11, 13, 9], [9, 11, 13]), ([9, 14], [9, 14])])
def laws_FnCombined.B6 : List Nat := [0, 0, 3, 7, 15, 15, 63, 127, 255, 511, 1023, 2047, 1023, 8191, 16383, 32767]
theorem laws_FnCombined.tab6 : rtab .any (opsOf Try.f7 6) = laws_FnCombined.T6 := by kernel_rfl
theorem laws_FnCombined.bits6 : waitsOk laws_FnCombined.T6.2 laws_FnCombined.B6 = true := by kernel_rfl
set_option maxHeartbeats 8000000 in
set_option maxRecDepth 100000 in
theorem laws_FnCombined.calls (k : Nat) (A0 : Option Addr) (c0 : Nat) (l0 : List Int) (r : Bool) (w : World) (hr0 : Kd.C (Kd.int .u8) w A0 l0.length l0) (hc0 : l0.length ≤ c0) (h : laws_FnCombined.f k l0 = some r) :
  Calls Try.prog 7 #[.slice A0 l0.length c0] w fun e w' => e = .returned (.bool r) ∧ Below w.heap.size w w' := by
 have hu32 := Try.underlying32
 have hu36 := Try.underlying36
 have HR0 := Aside0.mk hr0
 have HC0 := Aside0.mk hc0
 clear hr0 hc0
 have HB := Aside0.mk (Below.refl w.heap.size w)
 have H : ((laws_big.f l0).bind fun t471 => (if t471 = true then (some true) else ((spec_DrawCombineRows.f k l0).bind fun bt472 => ((impl_CombineRows.f k bt472.1 bt472.2.1 bt472.2.2).bind fun bt480 => ((spec_CombineRows.f k bt472.1 bt472.2.1 bt472.2.2).bind fun bt486 => (if (bt480.2.2 != bt486.2.2) = true then (laws_FnCombined.j0 k l0 bt480.2.2 true bt472.1 bt472.2.1 bt480.1 bt480.2.1) else ((spec_EqualLin.f k bt480.1 bt480.2.1 bt486.1 bt486.2.1).bind fun t492 => (if t492 = true then ((impl_IsConstant.f k bt480.1 bt480.2.1).bind fun t493 => ((spec_IsConstant.f k bt480.1 bt480.2.1).bind fun t494 => (laws_FnCombined.j0 k l0 bt480.2.2 (t493 != t494) bt472.1 bt472.2.1 bt480.1 bt480.2.1))) else (laws_FnCombined.j0 k l0 bt480.2.2 true bt472.1 bt472.2.1 bt480.1 bt480.2.1))))))))) = some r := h
 clear h
 replace H := Option.bind_eq_some_iff.mp H
 obtain ⟨t471, A20, H⟩ := H
 replace H : (if t471 = true then (some true) else ((spec_DrawCombineRows.f k l0).bind fun bt472 => ((impl_CombineRows.f k bt472.1 bt472.2.1 bt472.2.2).bind fun bt480 => ((spec_CombineRows.f k bt472.1 bt472.2.1 bt472.2.2).bind fun bt486 => (if (bt480.2.2 != bt486.2.2) = true then (laws_FnCombined.j0 k l0 bt480.2.2 true bt472.1 bt472.2.1 bt480.1 bt480.2.1) else ((spec_EqualLin.f k bt480.1 bt480.2.1 bt486.1 bt486.2.1).bind fun t492 => (if t492 = true then ((impl_IsConstant.f k bt480.1 bt480.2.1).bind fun t493 => ((spec_IsConstant.f k bt480.1 bt480.2.1).bind fun t494 => (laws_FnCombined.j0 k l0 bt480.2.2 (t493 != t494) bt472.1 bt472.2.1 bt480.1 bt480.2.1))) else (laws_FnCombined.j0 k l0 bt480.2.2 true bt472.1 bt472.2.1 bt480.1 bt480.2.1)))))))) = some r := H
 have A2 := Aside0.mk A20
 clear A20
 by_cases c3 : t471 = true
 ·subst c3
  have H1 : (some true) = some r := by rw [if_pos rfl] at H; exact H
  clear H
  have H := H1
  clear H1
  obtain rfl := Option.some.inj H
  go_enter Try.func7, Try.ntmps7
  go_wp2_with (first | ((with_reducible refine gate_callee (f := 30) rfl ?_); refine gl (some 18) rfl rfl Try.func30 (by kernel_rfl) rfl #[.slice A0 l0.length c0] rfl ?_; (with_reducible refine (laws_big.calls _ _ l0 true _ ?side1 ?side2 A2.out).mono ?_); (case side1 => repeat (first | exact HR0.out | (with_reducible refine Kd.C_alloc ?_ _) | (with_reducible refine Kd.C_drewN ?_ _) | (with_reducible refine Kd.C_drew ?_))); (case side2 => exact HC0.out); rintro e w' ⟨rfl, ⟨nd, rfl⟩⟩; refine ⟨_, rfl, ?_⟩))
  go_ret
  exact ⟨by first | rfl | (simp [errW_none, errW_some] <;> rfl) | (simp [*, errW_none, errW_some] <;> rfl), ms HB⟩
 ·replace c3 := Bool.eq_false_iff.mpr c3
  subst c3
  have H1 : ((spec_DrawCombineRows.f k l0).bind fun bt472 => ((impl_CombineRows.f k bt472.1 bt472.2.1 bt472.2.2).bind fun bt480 => ((spec_CombineRows.f k bt472.1 bt472.2.1 bt472.2.2).bind fun bt486 => (if (bt480.2.2 != bt486.2.2) = true then (laws_FnCombined.j0 k l0 bt480.2.2 true bt472.1 bt472.2.1 bt480.1 bt480.2.1) else ((spec_EqualLin.f k bt480.1 bt480.2.1 bt486.1 bt486.2.1).bind fun t492 => (if t492 = true then ((impl_IsConstant.f k bt480.1 bt480.2.1).bind fun t493 => ((spec_IsConstant.f k bt480.1 bt480.2.1).bind fun t494 => (laws_FnCombined.j0 k l0 bt480.2.2 (t493 != t494) bt472.1 bt472.2.1 bt480.1 bt480.2.1))) else (laws_FnCombined.j0 k l0 bt480.2.2 true bt472.1 bt472.2.1 bt480.1 bt480.2.1))))))) = some r := by rw [if_neg (show ¬ (false = true) by decide)] at H; exact H
  clear H
  have H := H1
  clear H1
  replace H := Option.bind_eq_some_iff.mp H
  obtain ⟨⟨t472, t473, t476⟩, A40, H⟩ := H
  replace H : ((impl_CombineRows.f k t472 t473 t476).bind fun bt480 => ((spec_CombineRows.f k t472 t473 t476).bind fun bt486 => (if (bt480.2.2 != bt486.2.2) = true then (laws_FnCombined.j0 k l0 bt480.2.2 true t472 t473 bt480.1 bt480.2.1) else ((spec_EqualLin.f k bt480.1 bt480.2.1 bt486.1 bt486.2.1).bind fun t492 => (if t492 = true then ((impl_IsConstant.f k bt480.1 bt480.2.1).bind fun t493 => ((spec_IsConstant.f k bt480.1 bt480.2.1).bind fun t494 => (laws_FnCombined.j0 k l0 bt480.2.2 (t493 != t494) t472 t473 bt480.1 bt480.2.1))) else (laws_FnCombined.j0 k l0 bt480.2.2 true t472 t473 bt480.1 bt480.2.1)))))) = some r := H
  have A4 := Aside0.mk A40
  clear A40
  replace H := Option.bind_eq_some_iff.mp H
  obtain ⟨⟨t480, t481, t484⟩, A50, H⟩ := H
  replace H : ((spec_CombineRows.f k t472 t473 t476).bind fun bt486 => (if (t484 != bt486.2.2) = true then (laws_FnCombined.j0 k l0 t484 true t472 t473 t480 t481) else ((spec_EqualLin.f k t480 t481 bt486.1 bt486.2.1).bind fun t492 => (if t492 = true then ((impl_IsConstant.f k t480 t481).bind fun t493 => ((spec_IsConstant.f k t480 t481).bind fun t494 => (laws_FnCombined.j0 k l0 t484 (t493 != t494) t472 t473 t480 t481))) else (laws_FnCombined.j0 k l0 t484 true t472 t473 t480 t481))))) = some r := H
  have A5 := Aside0.mk A50
  clear A50
  replace H := Option.bind_eq_some_iff.mp H
  obtain ⟨⟨t486, t487, t490⟩, A60, H⟩ := H
  replace H : (if (t484 != t490) = true then (laws_FnCombined.j0 k l0 t484 true t472 t473 t480 t481) else ((spec_EqualLin.f k t480 t481 t486 t487).bind fun t492 => (if t492 = true then ((impl_IsConstant.f k t480 t481).bind fun t493 => ((spec_IsConstant.f k t480 t481).bind fun t494 => (laws_FnCombined.j0 k l0 t484 (t493 != t494) t472 t473 t480 t481))) else (laws_FnCombined.j0 k l0 t484 true t472 t473 t480 t481)))) = some r := H
  have A6 := Aside0.mk A60
  clear A60
  have HC7 := Aside0.mk H
  clear H
  go_enter Try.func7, Try.ntmps7
  go_upto_region 6 with (first | ((with_reducible refine gate_callee (f := 30) rfl ?_); refine gl (some 18) rfl rfl Try.func30 (by kernel_rfl) rfl #[.slice A0 l0.length c0] rfl ?_; (with_reducible refine (laws_big.calls _ _ l0 false _ ?side1 ?side2 A2.out).mono ?_); (case side1 => repeat (first | exact HR0.out | (with_reducible refine Kd.C_alloc ?_ _) | (with_reducible refine Kd.C_drewN ?_ _) | (with_reducible refine Kd.C_drew ?_))); (case side2 => exact HC0.out); rintro e w' ⟨rfl, ⟨nd, rfl⟩⟩; refine ⟨_, rfl, ?_⟩) | ((with_reducible refine gate_callee (f := 40) rfl ?_); refine gl (some 21) rfl rfl Try.func40 (by kernel_rfl) rfl #[.slice A0 l0.length c0] rfl ?_; (with_reducible refine (spec_DrawCombineRows.calls k _ _ l0 t472 t473 t476 _ ?side1 ?side2 A4.out).mono ?_); (case side1 => repeat (first | exact HR0.out | (with_reducible refine Kd.C_alloc ?_ _) | (with_reducible refine Kd.C_drewN ?_ _) | (with_reducible refine Kd.C_drew ?_))); (case side2 => exact HC0.out); rintro e w8 ⟨v474, v477, rfl, ho0, ho1, hb⟩; refine ⟨_, rfl, ?_⟩; have HO475 := Aside0.mk (Kd.N_lower (Kd.N_mono (ok' := fun k_ => some k_ ≠ (v477 : Value).ownBlock) (Kd.S_N (Kd.S_bound ho0)) (fun k_ hk_ => hk_.1)) (below_size (ms HB))); have HO478 := Aside0.mk (Kd.R_lower ho1 (below_size (ms HB))); replace HB := bs HB hb; (try clear hb); (try clear ho0); (try clear ho1)) | ((with_reducible refine gate_dst (N := 3) rfl ?_); refine box_event ?hg (N := 3) ?hd (cs := #[.int .i64 0, .slice none 0 0]) (t := 32) ?hr ?_; (case hd => rfl); (case hg => rfl); (case hr => first | (go_simp; done) | (go_simp; rfl)); intro gb479 hg w9 hbox hb; replace HO475 := Aside0.mk (Kd.N_below (Kd.N_elderB (mN HO475) gb479 (Nat.le_of_eq hg.symm)) hb); replace HO478 := rb HO478 hb; have BK479 := Aside0.mk (hbox); have GW479 := gw hg HB; have GE479 := gw hg HB; replace HB := bs HB hb; clear hb hbox hg; obtain ⟨hcz10_0, hcz10_1⟩ := c2 BK479; have hfz10_0 := blk_frozen BK479.out 0; have hfz10_1 := blk_frozen BK479.out 1; obtain ⟨Ao11, co11, eo11⟩ := Kd.N_slice HO475.out; subst eo11; obtain ⟨Ao12, co12, eo12⟩ := Kd.R_slice HO478.out; subst eo12) | ((with_reducible refine gate_callee (f := 27) rfl ?_); refine gl (some 27) rfl rfl Try.func27 (by kernel_rfl) rfl #[.agg #[.int .i64 t472, .slice Ao11 t473.length co11], .slice Ao12 t476.length co12] rfl ?_; (with_reducible refine (impl_CombineRows.calls k t472 _ _ t473 _ _ t476 t480 t481 t484 _ ?side1 ?side2 ?side3 ?side4 A5.out).mono ?_); (case side1 => refine (Kd.N_reads' (e := 36) (base := w.heap.size) (ok := fun k_ => (some k_ ≠ (.slice Ao12 t476.length co12 : Value).ownBlock ∧ k_ ≠ gb479)) (n := t473.length) (c := co11) ?_).2.2; exact (by (with_reducible repeat (first | apply Kd.N_alloc | apply Kd.N_drewN | apply Kd.N_drew)); exact (Kd.N_mono (Kd.N_far (p := ⟨gb479, 1, none⟩) (Kd.N_far (p := ⟨gb479, 0, none⟩) (Kd.N_mono HO475.out (fun k_ hk => (⟨hk, hk.2⟩ : _ ∧ k_ ≠ gb479))) (fun _ hk => hk.2) (.int .i64 t472)) (fun _ hk => hk.2) (.slice Ao11 t473.length co11)) (fun _ h_ => h_.1)))); (case side2 => exact (Kd.N_reads' HO475.out).2.1); (case side3 => refine (Kd.R_reads' (e := 3) (base := w.heap.size) (ok := fun k_ => True) (n := t476.length) (c := co12) ?_).2.2; exact (by (with_reducible repeat (first | apply Kd.R_alloc | apply Kd.R_drewN | apply Kd.R_drew)); exact (Kd.R_mono (Kd.R_far (p := ⟨gb479, 1, none⟩) (Kd.R_far (p := ⟨gb479, 0, none⟩) (Kd.R_types HO478.out BK479.out (by decide)) (fun _ hk => hk.2) (.int .i64 t472)) (fun _ hk => hk.2) (.slice Ao11 t473.length co11)) (fun _ h_ => h_.1)))); (case side4 => exact (Kd.R_reads' HO478.out).2.1); rintro e w13 ⟨v482, rfl, ho0, hb⟩; refine ⟨_, rfl, ?_⟩; have n0_ := Aside0.mk (Kd.N_elder' (by (with_reducible repeat (first | apply Kd.N_alloc | apply Kd.N_drewN | apply Kd.N_drew)); exact (Kd.N_mono (Kd.N_far (p := ⟨gb479, 1, none⟩) (Kd.N_far (p := ⟨gb479, 0, none⟩) (Kd.N_mono HO475.out (fun k_ hk => (⟨hk, hk.2⟩ : _ ∧ k_ ≠ gb479))) (fun _ hk => hk.2) (.int .i64 t472)) (fun _ hk => hk.2) (.slice Ao11 t473.length co11)) (fun _ h_ => h_.1))) (Kd.R_base ho0) hb); have n1_ := Aside0.mk (Kd.R_elder' (by (with_reducible repeat (first | apply Kd.R_alloc | apply Kd.R_drewN | apply Kd.R_drew)); exact (Kd.R_mono (Kd.R_far (p := ⟨gb479, 1, none⟩) (Kd.R_far (p := ⟨gb479, 0, none⟩) (Kd.R_types HO478.out BK479.out (by decide)) (fun _ hk => hk.2) (.int .i64 t472)) (fun _ hk => hk.2) (.slice Ao11 t473.length co11)) (fun _ h_ => h_.1))) (Kd.R_base ho0) hb); have n2_ := Aside0.mk (Kd.R_lower (Kd.R_new' ho0 (Kd.R_lt (by (with_reducible repeat (first | apply Kd.R_alloc | apply Kd.R_drewN | apply Kd.R_drew)); exact (Kd.R_mono (Kd.R_far (p := ⟨gb479, 1, none⟩) (Kd.R_far (p := ⟨gb479, 0, none⟩) (Kd.R_types HO478.out BK479.out (by decide)) (fun _ hk => hk.2) (.int .i64 t472)) (fun _ hk => hk.2) (.slice Ao11 t473.length co11)) (fun _ h_ => h_.1))))) (below_size (ms HB))); have n3_ := Aside0.mk (blk_below (g := gb479) (o := .cells #[.int .i64 t472, .slice Ao11 t473.length co11] 32 (0, 0)) (by (with_reducible repeat (first | refine blk_drewN ?_ _ | refine blk_drew ?_ | refine blk_alloc ?_ _)); refine blk_put (cs := #[.int .i64 t472, .slice none 0 0]) ?_ 1 _ rfl; (with_reducible repeat (first | refine blk_drewN ?_ _ | refine blk_drew ?_ | refine blk_alloc ?_ _)); refine blk_put (cs := #[.int .i64 0, .slice none 0 0]) ?_ 0 _ rfl; (with_reducible repeat (first | refine blk_drewN ?_ _ | refine blk_drew ?_ | refine blk_alloc ?_ _)); exact BK479.out) hb); have n4_ := bs HB hb; clear HO475 HO478 BK479 HB; have HO475 := n0_; have HO478 := n1_; have HO483 := n2_; have BK479 := n3_; have HB := n4_; clear n0_ n1_ n2_ n3_ n4_; (try clear hb); (try clear ho0)) | ((with_reducible refine gate_dst (N := 5) rfl ?_); refine box_event ?hg (N := 5) ?hd (cs := #[.int .i64 0, .slice none 0 0]) (t := 36) ?hr ?_; (case hd => rfl); (case hg => rfl); (case hr => first | (go_simp; done) | (go_simp; rfl)); intro gb485 hg w14 hbox hb; replace HO475 := Aside0.mk (Kd.N_below (Kd.N_elderB (mN HO475) gb485 (Nat.le_of_eq hg.symm)) hb); replace HO478 := rb HO478 hb; replace HO483 := rb HO483 hb; have BK485 := Aside0.mk (hbox); have GW485 := gw hg HB; have GE485 := gw hg HB; replace HB := bs HB hb; have NB479_485 := nl hg BK479; have NB485_479 := ng hg BK479; replace BK479 := bb BK479 hb; clear hb hbox hg; have hnb15 := NB485_479.out; have hnc15 := NB479_485.out; obtain ⟨hcz16_0, hcz16_1⟩ := c2 BK485; have hfz16_0 := blk_frozen BK485.out 0; have hfz16_1 := blk_frozen BK485.out 1; obtain ⟨Ao17, co17, eo17⟩ := Kd.R_slice HO483.out; subst eo17; obtain ⟨hcz18_0, hcz18_1⟩ := c2 BK479; have hfz18_0 := blk_frozen BK479.out 0; have hfz18_1 := blk_frozen BK479.out 1) | ((with_reducible refine gate_callee (f := 26) rfl ?_); refine gl (some 33) rfl rfl Try.func26 (by kernel_rfl) rfl #[.agg #[.int .i64 t472, .slice Ao11 t473.length co11], .slice Ao12 t476.length co12] rfl ?_; (with_reducible refine (spec_CombineRows.calls k t472 _ _ t473 _ _ t476 t486 t487 t490 _ ?side1 ?side2 ?side3 ?side4 A6.out).mono ?_); (case side1 => refine (Kd.N_reads' (e := 36) (base := w.heap.size) (ok := fun k_ => (((some k_ ≠ (.slice Ao12 t476.length co12 : Value).ownBlock ∧ k_ ≠ gb479) ∧ some k_ ≠ (.slice Ao17 t481.length co17 : Value).ownBlock) ∧ k_ ≠ gb485)) (n := t473.length) (c := co11) ?_).2.2; exact (by (with_reducible repeat (first | apply Kd.N_alloc | apply Kd.N_drewN | apply Kd.N_drew)); exact (Kd.N_mono (Kd.N_far (p := ⟨gb485, 1, none⟩) (Kd.N_far (p := ⟨gb485, 0, none⟩) (Kd.N_mono HO475.out (fun k_ hk => (⟨hk, hk.2⟩ : _ ∧ k_ ≠ gb485))) (fun _ hk => hk.2) (.int .i64 t480)) (fun _ hk => hk.2) (.slice Ao17 t481.length co17)) (fun _ h_ => h_.1)))); (case side2 => exact (Kd.N_reads' HO475.out).2.1); (case side3 => refine (Kd.R_reads' (e := 3) (base := w.heap.size) (ok := fun k_ => (True ∧ some k_ ≠ (.slice Ao17 t481.length co17 : Value).ownBlock)) (n := t476.length) (c := co12) ?_).2.2; exact (by (with_reducible repeat (first | apply Kd.R_alloc | apply Kd.R_drewN | apply Kd.R_drew)); exact (Kd.R_mono (Kd.R_far (p := ⟨gb485, 1, none⟩) (Kd.R_far (p := ⟨gb485, 0, none⟩) (Kd.R_types HO478.out BK485.out (by decide)) (fun _ hk => hk.2) (.int .i64 t480)) (fun _ hk => hk.2) (.slice Ao17 t481.length co17)) (fun _ h_ => h_.1)))); (case side4 => exact (Kd.R_reads' HO478.out).2.1); rintro e w19 ⟨v488, rfl, ho0, hb⟩; refine ⟨_, rfl, ?_⟩; have n0_ := Aside0.mk (Kd.N_elder' (by (with_reducible repeat (first | apply Kd.N_alloc | apply Kd.N_drewN | apply Kd.N_drew)); exact (Kd.N_mono (Kd.N_far (p := ⟨gb485, 1, none⟩) (Kd.N_far (p := ⟨gb485, 0, none⟩) (Kd.N_mono HO475.out (fun k_ hk => (⟨hk, hk.2⟩ : _ ∧ k_ ≠ gb485))) (fun _ hk => hk.2) (.int .i64 t480)) (fun _ hk => hk.2) (.slice Ao17 t481.length co17)) (fun _ h_ => h_.1))) (Kd.R_base ho0) hb); have n1_ := Aside0.mk (Kd.R_elder' (by (with_reducible repeat (first | apply Kd.R_alloc | apply Kd.R_drewN | apply Kd.R_drew)); exact (Kd.R_mono (Kd.R_far (p := ⟨gb485, 1, none⟩) (Kd.R_far (p := ⟨gb485, 0, none⟩) (Kd.R_types HO478.out BK485.out (by decide)) (fun _ hk => hk.2) (.int .i64 t480)) (fun _ hk => hk.2) (.slice Ao17 t481.length co17)) (fun _ h_ => h_.1))) (Kd.R_base ho0) hb); have n2_ := Aside0.mk (Kd.R_elder' (by (with_reducible repeat (first | apply Kd.R_alloc | apply Kd.R_drewN | apply Kd.R_drew)); exact (Kd.R_mono (Kd.R_far (p := ⟨gb485, 1, none⟩) (Kd.R_far (p := ⟨gb485, 0, none⟩) (Kd.R_types HO483.out BK485.out (by decide)) (fun _ hk => hk.2) (.int .i64 t480)) (fun _ hk => hk.2) (.slice Ao17 t481.length co17)) (fun _ h_ => h_.1))) (Kd.R_base ho0) hb); have n3_ := Aside0.mk (Kd.R_lower (Kd.R_new' (Kd.R_new' ho0 (Kd.R_lt (by (with_reducible repeat (first | apply Kd.R_alloc | apply Kd.R_drewN | apply Kd.R_drew)); exact (Kd.R_mono (Kd.R_far (p := ⟨gb485, 1, none⟩) (Kd.R_far (p := ⟨gb485, 0, none⟩) (Kd.R_types HO478.out BK485.out (by decide)) (fun _ hk => hk.2) (.int .i64 t480)) (fun _ hk => hk.2) (.slice Ao17 t481.length co17)) (fun _ h_ => h_.1))))) (Kd.R_lt (by (with_reducible repeat (first | apply Kd.R_alloc | apply Kd.R_drewN | apply Kd.R_drew)); exact (Kd.R_mono (Kd.R_far (p := ⟨gb485, 1, none⟩) (Kd.R_far (p := ⟨gb485, 0, none⟩) (Kd.R_types HO483.out BK485.out (by decide)) (fun _ hk => hk.2) (.int .i64 t480)) (fun _ hk => hk.2) (.slice Ao17 t481.length co17)) (fun _ h_ => h_.1))))) (below_size (ms HB))); have n4_ := bf BK479 hb; have n5_ := Aside0.mk (blk_below (g := gb485) (o := .cells #[.int .i64 t480, .slice Ao17 t481.length co17] 36 (0, 0)) (by (with_reducible repeat (first | refine blk_drewN ?_ _ | refine blk_drew ?_ | refine blk_alloc ?_ _)); refine blk_put (cs := #[.int .i64 t480, .slice none 0 0]) ?_ 1 _ rfl; (with_reducible repeat (first | refine blk_drewN ?_ _ | refine blk_drew ?_ | refine blk_alloc ?_ _)); refine blk_put (cs := #[.int .i64 0, .slice none 0 0]) ?_ 0 _ rfl; (with_reducible repeat (first | refine blk_drewN ?_ _ | refine blk_drew ?_ | refine blk_alloc ?_ _)); exact BK485.out) hb); have n6_ := bs HB hb; clear HO475 HO478 HO483 BK479 BK485 HB; have HO475 := n0_; have HO478 := n1_; have HO483 := n2_; have HO489 := n3_; have BK479 := n4_; have BK485 := n5_; have HB := n6_; clear n0_ n1_ n2_ n3_ n4_ n5_ n6_; (try clear hb); (try clear ho0)) | ((with_reducible refine gate_dst (N := 7) rfl ?_); refine box_event ?hg (N := 7) ?hd (cs := #[.int .i64 0, .slice none 0 0]) (t := 36) ?hr ?_; (case hd => rfl); (case hg => rfl); (case hr => first | (go_simp; done) | (go_simp; rfl)); intro gb491 hg w20 hbox hb; replace HO475 := Aside0.mk (Kd.N_below (Kd.N_elderB (mN HO475) gb491 (Nat.le_of_eq hg.symm)) hb); replace HO478 := rb HO478 hb; replace HO483 := rb HO483 hb; replace HO489 := rb HO489 hb; have BK491 := Aside0.mk (hbox); have GW491 := gw hg HB; have GE491 := gw hg HB; replace HB := bs HB hb; have NB479_491 := nl hg BK479; have NB491_479 := ng hg BK479; replace BK479 := bb BK479 hb; have NB485_491 := nl hg BK485; have NB491_485 := ng hg BK485; replace BK485 := bb BK485 hb; clear hb hbox hg; have hnb21 := NB491_479.out; have hnc21 := NB479_491.out; have hnb22 := NB491_485.out; have hnc22 := NB485_491.out; obtain ⟨hcz23_0, hcz23_1⟩ := c2 BK491; have hfz23_0 := blk_frozen BK491.out 0; have hfz23_1 := blk_frozen BK491.out 1; obtain ⟨Ao24, co24, eo24⟩ := Kd.R_slice HO489.out; subst eo24))
  (try simp only [Act.put, List.setIfInBounds_toArray, List.set_cons_zero, List.set_cons_succ])
  go_cut [51] (fun v51 wc => ∃ (kq : Nat) (x51_6 : Bool), v51 = .bool x51_6 ∧ Aside0 (laws_FnCombined.j0 kq l0 t484 x51_6 t472 t473 t480 t481 = some r) ∧ Aside0 (kq ≤ k) ∧ Aside0 (Kd.N k36 36 wc w.heap.size (fun k_ => some k_ ≠ ((.slice Ao17 t481.length co17) : Value).ownBlock ∧ some k_ ≠ ((.slice Ao24 t487.length co24) : Value).ownBlock ∧ k_ ≠ gb479 ∧ k_ ≠ gb485 ∧ k_ ≠ gb491) (.slice Ao11 t473.length co11) t473) ∧ Aside0 (Kd.R (Kd.int .i64) 3 wc w.heap.size (fun k_ => some k_ ≠ ((.slice Ao24 t487.length co24) : Value).ownBlock) (.slice Ao17 t481.length co17) t481) ∧ Aside0 (Kd.R (Kd.int .i64) 3 wc w.heap.size (fun k_ => some k_ ≠ ((.slice Ao17 t481.length co17) : Value).ownBlock) (.slice Ao24 t487.length co24) t487) ∧ Aside0 (wc.heap[gb479]? = some (.cells #[.int .i64 t472, (.slice Ao11 t473.length co11)] 32 (0, 0))) ∧ Aside0 (wc.heap[gb485]? = some (.cells #[.int .i64 t480, (.slice Ao17 t481.length co17)] 36 (0, 0))) ∧ Aside0 (wc.heap[gb491]? = some (.cells #[.int .i64 t486, (.slice Ao24 t487.length co24)] 36 (0, 0))) ∧ Aside0 (Below w.heap.size w wc))
  case first =>
   have H := HC7.out
   clear HC7
   by_cases c25 : (t484 != t490) = true
   ·rw [if_pos c25] at H
    have c25b0 : (t484 != t490) = true := c25
    (try (have c25b1 : decide (t484 = t490) = false := by simpa using c25))
    (try (have c25b2 : (t484 == t490) = false := by simpa using c25))
    (try (have c25b3 : ¬ (t484 = t490) := by simpa using c25))
    clear c25
    (first | rw [c25b0] | (simp only [i64_w, i32_w]; rw [c25b0]) | skip)
    have H' := Aside0.mk H
    clear H
    try go_wp2
    have n0_ : Aside0 (Kd.N k36 36 ((w20.setCell ⟨gb491, 0, none⟩ (.int .i64 t486)).setCell ⟨gb491, 1, none⟩ (.slice Ao24 t487.length co24)) w.heap.size (fun k_ => some k_ ≠ (.slice Ao12 t476.length co12 : Value).ownBlock ∧ some k_ ≠ (.slice Ao17 t481.length co17 : Value).ownBlock ∧ some k_ ≠ (.slice Ao24 t487.length co24 : Value).ownBlock ∧ k_ ≠ gb479 ∧ k_ ≠ gb485 ∧ k_ ≠ gb491) (.slice Ao11 t473.length co11) t473) := ⟨by (with_reducible repeat (first | apply Kd.N_alloc | apply Kd.N_drewN | apply Kd.N_drew)); exact Kd.N_mono (Kd.N_far (p := ⟨gb491, 1, none⟩) (Kd.N_far (p := ⟨gb491, 0, none⟩) (Kd.N_mono HO475.out (fun k_ hk => (⟨hk, hk.2⟩ : _ ∧ k_ ≠ gb491))) (fun _ hk => hk.2) (.int .i64 t486)) (fun _ hk => hk.2) (.slice Ao24 t487.length co24)) (fun _ hk => ⟨hk.1.1.1.1.1.1, ⟨hk.1.1.1.1.2, ⟨hk.1.1.2, ⟨hk.1.1.1.1.1.2, ⟨hk.1.1.1.2, hk.1.2⟩⟩⟩⟩⟩)⟩
    have n1_ : Aside0 (Kd.R (Kd.int .i64) 3 ((w20.setCell ⟨gb491, 0, none⟩ (.int .i64 t486)).setCell ⟨gb491, 1, none⟩ (.slice Ao24 t487.length co24)) w.heap.size (fun k_ => some k_ ≠ (.slice Ao17 t481.length co17 : Value).ownBlock ∧ some k_ ≠ (.slice Ao24 t487.length co24 : Value).ownBlock) (.slice Ao12 t476.length co12) t476) := ⟨by (with_reducible repeat (first | apply Kd.R_alloc | apply Kd.R_drewN | apply Kd.R_drew)); exact Kd.R_mono (Kd.R_far (p := ⟨gb491, 1, none⟩) (Kd.R_far (p := ⟨gb491, 0, none⟩) (Kd.R_types HO478.out BK491.out (by decide)) (fun _ hk => hk.2) (.int .i64 t486)) (fun _ hk => hk.2) (.slice Ao24 t487.length co24)) (fun _ hk => ⟨hk.1.1.2, hk.1.2⟩)⟩
    have n2_ : Aside0 (Kd.R (Kd.int .i64) 3 ((w20.setCell ⟨gb491, 0, none⟩ (.int .i64 t486)).setCell ⟨gb491, 1, none⟩ (.slice Ao24 t487.length co24)) w.heap.size (fun k_ => some k_ ≠ (.slice Ao12 t476.length co12 : Value).ownBlock ∧ some k_ ≠ (.slice Ao24 t487.length co24 : Value).ownBlock) (.slice Ao17 t481.length co17) t481) := ⟨by (with_reducible repeat (first | apply Kd.R_alloc | apply Kd.R_drewN | apply Kd.R_drew)); exact Kd.R_mono (Kd.R_far (p := ⟨gb491, 1, none⟩) (Kd.R_far (p := ⟨gb491, 0, none⟩) (Kd.R_types HO483.out BK491.out (by decide)) (fun _ hk => hk.2) (.int .i64 t486)) (fun _ hk => hk.2) (.slice Ao24 t487.length co24)) (fun _ hk => ⟨hk.1.1.2, hk.1.2⟩)⟩
    have n3_ : Aside0 (Kd.R (Kd.int .i64) 3 ((w20.setCell ⟨gb491, 0, none⟩ (.int .i64 t486)).setCell ⟨gb491, 1, none⟩ (.slice Ao24 t487.length co24)) w.heap.size (fun k_ => some k_ ≠ (.slice Ao12 t476.length co12 : Value).ownBlock ∧ some k_ ≠ (.slice Ao17 t481.length co17 : Value).ownBlock) (.slice Ao24 t487.length co24) t487) := ⟨by (with_reducible repeat (first | apply Kd.R_alloc | apply Kd.R_drewN | apply Kd.R_drew)); exact Kd.R_mono (Kd.R_far (p := ⟨gb491, 1, none⟩) (Kd.R_far (p := ⟨gb491, 0, none⟩) (Kd.R_types HO489.out BK491.out (by decide)) (fun _ hk => hk.2) (.int .i64 t486)) (fun _ hk => hk.2) (.slice Ao24 t487.length co24)) (fun _ hk => ⟨hk.1.1.2, hk.1.2⟩)⟩
    have n4_ : Aside0 (((w20.setCell ⟨gb491, 0, none⟩ (.int .i64 t486)).setCell ⟨gb491, 1, none⟩ (.slice Ao24 t487.length co24)).heap[gb479]? = some (.cells #[.int .i64 t472, .slice Ao11 t473.length co11] 32 (0, 0))) := ⟨by (with_reducible repeat (first | refine blk_drewN ?_ _ | refine blk_drew ?_ | refine blk_alloc ?_ _)); refine blk_far ?_ NB479_491.out _; (with_reducible repeat (first | refine blk_drewN ?_ _ | refine blk_drew ?_ | refine blk_alloc ?_ _)); refine blk_far ?_ NB479_491.out _; (with_reducible repeat (first | refine blk_drewN ?_ _ | refine blk_drew ?_ | refine blk_alloc ?_ _)); exact BK479.out⟩
    have n5_ : Aside0 (((w20.setCell ⟨gb491, 0, none⟩ (.int .i64 t486)).setCell ⟨gb491, 1, none⟩ (.slice Ao24 t487.length co24)).heap[gb485]? = some (.cells #[.int .i64 t480, .slice Ao17 t481.length co17] 36 (0, 0))) := ⟨by (with_reducible repeat (first | refine blk_drewN ?_ _ | refine blk_drew ?_ | refine blk_alloc ?_ _)); refine blk_far ?_ NB485_491.out _; (with_reducible repeat (first | refine blk_drewN ?_ _ | refine blk_drew ?_ | refine blk_alloc ?_ _)); refine blk_far ?_ NB485_491.out _; (with_reducible repeat (first | refine blk_drewN ?_ _ | refine blk_drew ?_ | refine blk_alloc ?_ _)); exact BK485.out⟩
    have n6_ : Aside0 (((w20.setCell ⟨gb491, 0, none⟩ (.int .i64 t486)).setCell ⟨gb491, 1, none⟩ (.slice Ao24 t487.length co24)).heap[gb491]? = some (.cells #[.int .i64 t486, .slice Ao24 t487.length co24] 36 (0, 0))) := ⟨by (with_reducible repeat (first | refine blk_drewN ?_ _ | refine blk_drew ?_ | refine blk_alloc ?_ _)); refine blk_put (cs := #[.int .i64 t486, .slice none 0 0]) ?_ 1 _ rfl; (with_reducible repeat (first | refine blk_drewN ?_ _ | refine blk_drew ?_ | refine blk_alloc ?_ _)); refine blk_put (cs := #[.int .i64 0, .slice none 0 0]) ?_ 0 _ rfl; (with_reducible repeat (first | refine blk_drewN ?_ _ | refine blk_drew ?_ | refine blk_alloc ?_ _)); exact BK491.out⟩
    have n7_ : Aside0 (Below w.heap.size w ((w20.setCell ⟨gb491, 0, none⟩ (.int .i64 t486)).setCell ⟨gb491, 1, none⟩ (.slice Ao24 t487.length co24))) := ⟨ms HB⟩
    (try clear HO475)
    (try clear HO478)
    (try clear HO483)
    (try clear HO489)
    (try clear BK479)
    (try clear BK485)
    (try clear BK491)
    (try clear HB)
    generalize ((w20.setCell ⟨gb491, 0, none⟩ (.int .i64 t486)).setCell ⟨gb491, 1, none⟩ (.slice Ao24 t487.length co24)) = w26 at n0_ n1_ n2_ n3_ n4_ n5_ n6_ n7_ ⊢
    have HO475 := n0_
    have HO478 := n1_
    have HO483 := n2_
    have HO489 := n3_
    have BK479 := n4_
    have BK485 := n5_
    have BK491 := n6_
    have HB := n7_
    clear n0_ n1_ n2_ n3_ n4_ n5_ n6_ n7_
    replace HO475 := Aside0.mk (Kd.N_drew HO475.out)
    replace HO478 := Aside0.mk (Kd.R_drew HO478.out)
    replace HO483 := Aside0.mk (Kd.R_drew HO483.out)
    replace HO489 := Aside0.mk (Kd.R_drew HO489.out)
    replace BK479 := Aside0.mk (blk_drew BK479.out)
    replace BK485 := Aside0.mk (blk_drew BK485.out)
    replace BK491 := Aside0.mk (blk_drew BK491.out)
    replace HB := Aside0.mk (below_drew1 HB.out)
    refine start_ (n := 16) (S := fun w' => True) (ds := []) #[false, false, false, false, false, false, false, false, false, false, false, false, false, false, false, false] (by kernel_rfl) rfl rfl trivial (fun hHeld => ?_); refine with_tabW laws_FnCombined.tab6 laws_FnCombined.bits6 (fun HT_ HW_ => ?_)
    generalize w26.drew = w27 at HO475 HO478 HO483 HO489 BK479 BK485 BK491 HB hHeld ⊢
    refine pure_ (i := 0) (N := some 36) (v := ?_) (a' := ?_) #[true, false, false, false, false, false, false, false, false, false, false, false, false, false, false, false] rfl rfl (any_of HT_.out (by kernel_rfl)) (fun _ _ _ h => h) (Or.inl ⟨by rfl, ?_⟩) ?_ ?_
    rotate_left
    ·intro w'
     go_simp
     with_reducible rfl
    rotate_left
    ·simp only [Act.put, List.setIfInBounds_toArray, List.set_cons_zero, List.set_cons_succ, i64_w, i32_w]
     rfl
    refine pure_ (i := 1) (N := some 37) (v := ?_) (a' := ?_) #[true, true, false, false, false, false, false, false, false, false, false, false, false, false, false, false] rfl rfl (any_of HT_.out (by kernel_rfl)) (fun _ _ _ h => h) (Or.inl ⟨by rfl, ?_⟩) ?_ ?_
    rotate_left
    ·intro w'
     go_simp
     with_reducible rfl
    rotate_left
    ·simp only [Act.put, List.setIfInBounds_toArray, List.set_cons_zero, List.set_cons_succ, i64_w, i32_w]
     rfl
    refine pure_ (i := 2) (N := some 38) (v := ?_) (a' := ?_) #[true, true, true, false, false, false, false, false, false, false, false, false, false, false, false, false] rfl rfl (any_of HT_.out (by kernel_rfl)) (fun _ _ _ h => h) (Or.inl ⟨by rfl, ?_⟩) ?_ ?_
    rotate_left
    ·intro w'
     go_simp
     with_reducible rfl
    rotate_left
    ·simp only [Act.put, List.setIfInBounds_toArray, List.set_cons_zero, List.set_cons_succ, i64_w, i32_w]
     rfl
    refine pure_ (i := 3) (N := some 39) (v := ?_) (a' := ?_) #[true, true, true, true, false, false, false, false, false, false, false, false, false, false, false, false] rfl rfl (any_of HT_.out (by kernel_rfl)) (fun _ _ _ h => h) (Or.inl ⟨by rfl, ?_⟩) ?_ ?_
    rotate_left
    ·intro w'
     go_simp
     with_reducible rfl
    rotate_left
    ·simp only [Act.put, List.setIfInBounds_toArray, List.set_cons_zero, List.set_cons_succ, i64_w, i32_w]
     rfl
    refine pure_ (i := 4) (N := some 40) (v := undef) (a' := ?_) #[true, true, true, true, true, false, false, false, false, false, false, false, false, false, false, false] rfl rfl (any_of HT_.out (by kernel_rfl)) (fun _ _ _ h => h) (Or.inr ⟨by rfl, rfl⟩) ?_ ?_
    rotate_left
    ·simp only [Act.put, List.setIfInBounds_toArray, List.set_cons_zero, List.set_cons_succ, i64_w, i32_w]
     rfl
    refine pure_ (i := 5) (N := some 41) (v := undef) (a' := ?_) #[true, true, true, true, true, true, false, false, false, false, false, false, false, false, false, false] rfl rfl (any_of HT_.out (by kernel_rfl)) (fun _ _ _ h => h) (Or.inr ⟨by rfl, rfl⟩) ?_ ?_
    rotate_left
    ·simp only [Act.put, List.setIfInBounds_toArray, List.set_cons_zero, List.set_cons_succ, i64_w, i32_w]
     rfl
    refine pure_ (i := 6) (N := some 42) (v := undef) (a' := ?_) #[true, true, true, true, true, true, true, false, false, false, false, false, false, false, false, false] rfl rfl (any_of HT_.out (by kernel_rfl)) (fun _ _ _ h => h) (Or.inr ⟨by rfl, rfl⟩) ?_ ?_
    rotate_left
    ·simp only [Act.put, List.setIfInBounds_toArray, List.set_cons_zero, List.set_cons_succ, i64_w, i32_w]
     rfl
    refine pure_ (i := 7) (N := some 43) (v := undef) (a' := ?_) #[true, true, true, true, true, true, true, true, false, false, false, false, false, false, false, false] rfl rfl (any_of HT_.out (by kernel_rfl)) (fun _ _ _ h => h) (Or.inr ⟨by rfl, rfl⟩) ?_ ?_
    rotate_left
    ·simp only [Act.put, List.setIfInBounds_toArray, List.set_cons_zero, List.set_cons_succ, i64_w, i32_w]
     rfl
    refine pure_ (i := 8) (N := some 44) (v := ?_) (a' := ?_) #[true, true, true, true, true, true, true, true, true, false, false, false, false, false, false, false] rfl rfl (any_of HT_.out (by kernel_rfl)) (fun _ _ _ h => h) (Or.inl ⟨by rfl, ?_⟩) ?_ ?_
    rotate_left
    ·intro w'
     go_simp
     with_reducible rfl
    rotate_left
    ·simp only [Act.put, List.setIfInBounds_toArray, List.set_cons_zero, List.set_cons_succ, i64_w, i32_w]
     rfl
    refine pure_ (i := 9) (N := some 45) (v := ?_) (a' := ?_) #[true, true, true, true, true, true, true, true, true, true, false, false, false, false, false, false] rfl rfl (any_of HT_.out (by kernel_rfl)) (fun _ _ _ h => h) (Or.inl ⟨by rfl, ?_⟩) ?_ ?_
    rotate_left
    ·intro w'
     go_simp
     with_reducible rfl
    rotate_left
    ·simp only [Act.put, List.setIfInBounds_toArray, List.set_cons_zero, List.set_cons_succ, i64_w, i32_w]
     rfl
    refine pure_ (i := 10) (N := some 46) (v := undef) (a' := ?_) #[true, true, true, true, true, true, true, true, true, true, true, false, false, false, false, false] rfl rfl (any_of HT_.out (by kernel_rfl)) (fun _ _ _ h => h) (Or.inr ⟨by rfl, rfl⟩) ?_ ?_
    rotate_left
    ·simp only [Act.put, List.setIfInBounds_toArray, List.set_cons_zero, List.set_cons_succ, i64_w, i32_w]
     rfl
    refine pure_ (i := 11) (N := some 47) (v := undef) (a' := ?_) #[true, true, true, true, true, true, true, true, true, true, true, true, false, false, false, false] rfl rfl (any_of HT_.out (by kernel_rfl)) (fun _ _ _ h => h) (Or.inr ⟨by rfl, rfl⟩) ?_ ?_
    rotate_left
    ·simp only [Act.put, List.setIfInBounds_toArray, List.set_cons_zero, List.set_cons_succ, i64_w, i32_w]
     rfl
    refine pure_ (i := 12) (N := some 48) (v := undef) (a' := ?_) #[true, true, true, true, true, true, true, true, true, true, true, true, true, false, false, false] rfl rfl (any_of HT_.out (by kernel_rfl)) (fun _ _ _ h => h) (Or.inr ⟨by rfl, rfl⟩) ?_ ?_
    rotate_left
    ·simp only [Act.put, List.setIfInBounds_toArray, List.set_cons_zero, List.set_cons_succ, i64_w, i32_w]
     rfl
    refine pure_ (i := 13) (N := some 49) (v := undef) (a' := ?_) #[true, true, true, true, true, true, true, true, true, true, true, true, true, true, false, false] rfl rfl (any_of HT_.out (by kernel_rfl)) (fun _ _ _ h => h) (Or.inr ⟨by rfl, rfl⟩) ?_ ?_
    rotate_left
    ·simp only [Act.put, List.setIfInBounds_toArray, List.set_cons_zero, List.set_cons_succ, i64_w, i32_w]
     rfl
    refine pure_ (i := 14) (N := some 50) (v := undef) (a' := ?_) #[true, true, true, true, true, true, true, true, true, true, true, true, true, true, true, false] rfl rfl (any_of HT_.out (by kernel_rfl)) (fun _ _ _ h => h) (Or.inr ⟨by rfl, rfl⟩) ?_ ?_
    rotate_left
    ·simp only [Act.put, List.setIfInBounds_toArray, List.set_cons_zero, List.set_cons_succ, i64_w, i32_w]
     rfl
    refine pure_ (i := 15) (N := some 51) (v := ?_) (a' := ?_) #[true, true, true, true, true, true, true, true, true, true, true, true, true, true, true, true] rfl rfl (any_of HT_.out (by kernel_rfl)) (fun _ _ _ h => h) (Or.inl ⟨by rfl, ?_⟩) ?_ ?_
    rotate_left
    ·intro w'
     go_simp
     with_reducible rfl
    rotate_left
    ·simp only [Act.put, List.setIfInBounds_toArray, List.set_cons_zero, List.set_cons_succ, i64_w, i32_w]
     rfl
    refine done_ (done_of HT_.out (by kernel_rfl)) ?_
    try go_wp2
    go_meet
    case rel => exact ⟨_, (true), (by first | rfl | (simp; done) | (simp [*]; done)), H', ⟨by first | omega | exact Nat.le_refl _⟩, ⟨by (with_reducible repeat (first | apply Kd.N_alloc | apply Kd.N_drewN | apply Kd.N_drew)); exact Kd.N_mono HO475.out (fun _ hk => ⟨hk.2.1, ⟨hk.2.2.1, ⟨hk.2.2.2.1, ⟨hk.2.2.2.2.1, hk.2.2.2.2.2⟩⟩⟩⟩)⟩, ⟨by (with_reducible repeat (first | apply Kd.R_alloc | apply Kd.R_drewN | apply Kd.R_drew)); exact Kd.R_mono HO483.out (fun _ hk => hk.2)⟩, ⟨by (with_reducible repeat (first | apply Kd.R_alloc | apply Kd.R_drewN | apply Kd.R_drew)); exact Kd.R_mono HO489.out (fun _ hk => hk.2)⟩, ⟨mb BK479⟩, ⟨mb BK485⟩, ⟨mb BK491⟩, ⟨ms HB⟩⟩
   ·rw [if_neg c25] at H
    have c25b0 : (t484 != t490) = false := by simpa using c25
    (try (have c25b1 : decide (t484 = t490) = true := by simpa using c25))
    (try (have c25b2 : (t484 == t490) = true := by simpa using c25))
    clear c25
    (first | rw [c25b0] | (simp only [i64_w, i32_w]; rw [c25b0]) | skip)
    replace H := Option.bind_eq_some_iff.mp H
    obtain ⟨t492, A280, H⟩ := H
    replace H : (if t492 = true then ((impl_IsConstant.f k t480 t481).bind fun t493 => ((spec_IsConstant.f k t480 t481).bind fun t494 => (laws_FnCombined.j0 k l0 t484 (t493 != t494) t472 t473 t480 t481))) else (laws_FnCombined.j0 k l0 t484 true t472 t473 t480 t481)) = some r := H
    have A28 := Aside0.mk A280
    clear A280
    by_cases c29 : t492 = true
    ·subst c29
     have H1 : ((impl_IsConstant.f k t480 t481).bind fun t493 => ((spec_IsConstant.f k t480 t481).bind fun t494 => (laws_FnCombined.j0 k l0 t484 (t493 != t494) t472 t473 t480 t481))) = some r := by rw [if_pos rfl] at H; exact H
     clear H
     have H := H1
     clear H1
     replace H := Option.bind_eq_some_iff.mp H
     obtain ⟨t493, A300, H⟩ := H
     replace H : ((spec_IsConstant.f k t480 t481).bind fun t494 => (laws_FnCombined.j0 k l0 t484 (t493 != t494) t472 t473 t480 t481)) = some r := H
     have A30 := Aside0.mk A300
     clear A300
     replace H := Option.bind_eq_some_iff.mp H
     obtain ⟨t494, A310, H⟩ := H
     replace H : (laws_FnCombined.j0 k l0 t484 (t493 != t494) t472 t473 t480 t481) = some r := H
     have A31 := Aside0.mk A310
     clear A310
     have H' := Aside0.mk H
     clear H
     try go_wp2
     have n0_ : Aside0 (Kd.N k36 36 ((w20.setCell ⟨gb491, 0, none⟩ (.int .i64 t486)).setCell ⟨gb491, 1, none⟩ (.slice Ao24 t487.length co24)) w.heap.size (fun k_ => some k_ ≠ (.slice Ao12 t476.length co12 : Value).ownBlock ∧ some k_ ≠ (.slice Ao17 t481.length co17 : Value).ownBlock ∧ some k_ ≠ (.slice Ao24 t487.length co24 : Value).ownBlock ∧ k_ ≠ gb479 ∧ k_ ≠ gb485 ∧ k_ ≠ gb491) (.slice Ao11 t473.length co11) t473) := ⟨by (with_reducible repeat (first | apply Kd.N_alloc | apply Kd.N_drewN | apply Kd.N_drew)); exact Kd.N_mono (Kd.N_far (p := ⟨gb491, 1, none⟩) (Kd.N_far (p := ⟨gb491, 0, none⟩) (Kd.N_mono HO475.out (fun k_ hk => (⟨hk, hk.2⟩ : _ ∧ k_ ≠ gb491))) (fun _ hk => hk.2) (.int .i64 t486)) (fun _ hk => hk.2) (.slice Ao24 t487.length co24)) (fun _ hk => ⟨hk.1.1.1.1.1.1, ⟨hk.1.1.1.1.2, ⟨hk.1.1.2, ⟨hk.1.1.1.1.1.2, ⟨hk.1.1.1.2, hk.1.2⟩⟩⟩⟩⟩)⟩
     have n1_ : Aside0 (Kd.R (Kd.int .i64) 3 ((w20.setCell ⟨gb491, 0, none⟩ (.int .i64 t486)).setCell ⟨gb491, 1, none⟩ (.slice Ao24 t487.length co24)) w.heap.size (fun k_ => some k_ ≠ (.slice Ao17 t481.length co17 : Value).ownBlock ∧ some k_ ≠ (.slice Ao24 t487.length co24 : Value).ownBlock) (.slice Ao12 t476.length co12) t476) := ⟨by (with_reducible repeat (first | apply Kd.R_alloc | apply Kd.R_drewN | apply Kd.R_drew)); exact Kd.R_mono (Kd.R_far (p := ⟨gb491, 1, none⟩) (Kd.R_far (p := ⟨gb491, 0, none⟩) (Kd.R_types HO478.out BK491.out (by decide)) (fun _ hk => hk.2) (.int .i64 t486)) (fun _ hk => hk.2) (.slice Ao24 t487.length co24)) (fun _ hk => ⟨hk.1.1.2, hk.1.2⟩)⟩
     have n2_ : Aside0 (Kd.R (Kd.int .i64) 3 ((w20.setCell ⟨gb491, 0, none⟩ (.int .i64 t486)).setCell ⟨gb491, 1, none⟩ (.slice Ao24 t487.length co24)) w.heap.size (fun k_ => some k_ ≠ (.slice Ao12 t476.length co12 : Value).ownBlock ∧ some k_ ≠ (.slice Ao24 t487.length co24 : Value).ownBlock) (.slice Ao17 t481.length co17) t481) := ⟨by (with_reducible repeat (first | apply Kd.R_alloc | apply Kd.R_drewN | apply Kd.R_drew)); exact Kd.R_mono (Kd.R_far (p := ⟨gb491, 1, none⟩) (Kd.R_far (p := ⟨gb491, 0, none⟩) (Kd.R_types HO483.out BK491.out (by decide)) (fun _ hk => hk.2) (.int .i64 t486)) (fun _ hk => hk.2) (.slice Ao24 t487.length co24)) (fun _ hk => ⟨hk.1.1.2, hk.1.2⟩)⟩
     have n3_ : Aside0 (Kd.R (Kd.int .i64) 3 ((w20.setCell ⟨gb491, 0, none⟩ (.int .i64 t486)).setCell ⟨gb491, 1, none⟩ (.slice Ao24 t487.length co24)) w.heap.size (fun k_ => some k_ ≠ (.slice Ao12 t476.length co12 : Value).ownBlock ∧ some k_ ≠ (.slice Ao17 t481.length co17 : Value).ownBlock) (.slice Ao24 t487.length co24) t487) := ⟨by (with_reducible repeat (first | apply Kd.R_alloc | apply Kd.R_drewN | apply Kd.R_drew)); exact Kd.R_mono (Kd.R_far (p := ⟨gb491, 1, none⟩) (Kd.R_far (p := ⟨gb491, 0, none⟩) (Kd.R_types HO489.out BK491.out (by decide)) (fun _ hk => hk.2) (.int .i64 t486)) (fun _ hk => hk.2) (.slice Ao24 t487.length co24)) (fun _ hk => ⟨hk.1.1.2, hk.1.2⟩)⟩
     have n4_ : Aside0 (((w20.setCell ⟨gb491, 0, none⟩ (.int .i64 t486)).setCell ⟨gb491, 1, none⟩ (.slice Ao24 t487.length co24)).heap[gb479]? = some (.cells #[.int .i64 t472, .slice Ao11 t473.length co11] 32 (0, 0))) := ⟨by (with_reducible repeat (first | refine blk_drewN ?_ _ | refine blk_drew ?_ | refine blk_alloc ?_ _)); refine blk_far ?_ NB479_491.out _; (with_reducible repeat (first | refine blk_drewN ?_ _ | refine blk_drew ?_ | refine blk_alloc ?_ _)); refine blk_far ?_ NB479_491.out _; (with_reducible repeat (first | refine blk_drewN ?_ _ | refine blk_drew ?_ | refine blk_alloc ?_ _)); exact BK479.out⟩
     have n5_ : Aside0 (((w20.setCell ⟨gb491, 0, none⟩ (.int .i64 t486)).setCell ⟨gb491, 1, none⟩ (.slice Ao24 t487.length co24)).heap[gb485]? = some (.cells #[.int .i64 t480, .slice Ao17 t481.length co17] 36 (0, 0))) := ⟨by (with_reducible repeat (first | refine blk_drewN ?_ _ | refine blk_drew ?_ | refine blk_alloc ?_ _)); refine blk_far ?_ NB485_491.out _; (with_reducible repeat (first | refine blk_drewN ?_ _ | refine blk_drew ?_ | refine blk_alloc ?_ _)); refine blk_far ?_ NB485_491.out _; (with_reducible repeat (first | refine blk_drewN ?_ _ | refine blk_drew ?_ | refine blk_alloc ?_ _)); exact BK485.out⟩
     have n6_ : Aside0 (((w20.setCell ⟨gb491, 0, none⟩ (.int .i64 t486)).setCell ⟨gb491, 1, none⟩ (.slice Ao24 t487.length co24)).heap[gb491]? = some (.cells #[.int .i64 t486, .slice Ao24 t487.length co24] 36 (0, 0))) := ⟨by (with_reducible repeat (first | refine blk_drewN ?_ _ | refine blk_drew ?_ | refine blk_alloc ?_ _)); refine blk_put (cs := #[.int .i64 t486, .slice none 0 0]) ?_ 1 _ rfl; (with_reducible repeat (first | refine blk_drewN ?_ _ | refine blk_drew ?_ | refine blk_alloc ?_ _)); refine blk_put (cs := #[.int .i64 0, .slice none 0 0]) ?_ 0 _ rfl; (with_reducible repeat (first | refine blk_drewN ?_ _ | refine blk_drew ?_ | refine blk_alloc ?_ _)); exact BK491.out⟩
     have n7_ : Aside0 (Below w.heap.size w ((w20.setCell ⟨gb491, 0, none⟩ (.int .i64 t486)).setCell ⟨gb491, 1, none⟩ (.slice Ao24 t487.length co24))) := ⟨ms HB⟩
     (try clear HO475)
     (try clear HO478)
     (try clear HO483)
     (try clear HO489)
     (try clear BK479)
     (try clear BK485)
     (try clear BK491)
     (try clear HB)
     generalize ((w20.setCell ⟨gb491, 0, none⟩ (.int .i64 t486)).setCell ⟨gb491, 1, none⟩ (.slice Ao24 t487.length co24)) = w32 at n0_ n1_ n2_ n3_ n4_ n5_ n6_ n7_ ⊢
     have HO475 := n0_
     have HO478 := n1_
     have HO483 := n2_
     have HO489 := n3_
     have BK479 := n4_
     have BK485 := n5_
     have BK491 := n6_
     have HB := n7_
     clear n0_ n1_ n2_ n3_ n4_ n5_ n6_ n7_
     replace HO475 := Aside0.mk (Kd.N_drew HO475.out)
     replace HO478 := Aside0.mk (Kd.R_drew HO478.out)
     replace HO483 := Aside0.mk (Kd.R_drew HO483.out)
     replace HO489 := Aside0.mk (Kd.R_drew HO489.out)
     replace BK479 := Aside0.mk (blk_drew BK479.out)
     replace BK485 := Aside0.mk (blk_drew BK485.out)
     replace BK491 := Aside0.mk (blk_drew BK491.out)
     replace HB := Aside0.mk (below_drew1 HB.out)
     refine start_ (n := 16) (S := fun w' => w'.cell? ⟨gb485, 0, none⟩ = some (.int .i64 t480) ∧ w'.cell? ⟨gb485, 1, none⟩ = some (.slice Ao17 t481.length co17) ∧ w'.cell? ⟨gb491, 0, none⟩ = some (.int .i64 t486) ∧ w'.cell? ⟨gb491, 1, none⟩ = some (.slice Ao24 t487.length co24)) (ds := []) #[false, false, false, false, false, false, false, false, false, false, false, false, false, false, false, false] (by kernel_rfl) rfl rfl ⟨(c2 BK485).1, (c2 BK485).2, (c2 BK491).1, (c2 BK491).2⟩ (fun hHeld => ?_); refine with_tabW laws_FnCombined.tab6 laws_FnCombined.bits6 (fun HT_ HW_ => ?_)
     generalize w32.drew = w33 at HO475 HO478 HO483 HO489 BK479 BK485 BK491 HB hHeld ⊢
     refine pure_ (i := 0) (N := some 36) (v := ?_) (a' := ?_) #[true, false, false, false, false, false, false, false, false, false, false, false, false, false, false, false] rfl rfl (any_of HT_.out (by kernel_rfl)) (fun _ _ _ h => h) (Or.inl ⟨by rfl, ?_⟩) ?_ ?_
     rotate_left
     ·intro w'
      go_simp
      with_reducible rfl
     rotate_left
     ·simp only [Act.put, List.setIfInBounds_toArray, List.set_cons_zero, List.set_cons_succ, i64_w, i32_w]
      rfl
     refine pure_ (i := 1) (N := some 37) (v := ?_) (a' := ?_) #[true, true, false, false, false, false, false, false, false, false, false, false, false, false, false, false] rfl rfl (any_of HT_.out (by kernel_rfl)) (fun _ _ _ h => h) (Or.inl ⟨by rfl, ?_⟩) ?_ ?_
     rotate_left
     ·intro w'
      go_simp
      with_reducible rfl
     rotate_left
     ·simp only [Act.put, List.setIfInBounds_toArray, List.set_cons_zero, List.set_cons_succ, i64_w, i32_w]
      rfl
     refine pure_ (i := 2) (N := some 38) (v := ?_) (a' := ?_) #[true, true, true, false, false, false, false, false, false, false, false, false, false, false, false, false] rfl rfl (any_of HT_.out (by kernel_rfl)) (fun _ _ _ h => h) (Or.inl ⟨by rfl, ?_⟩) ?_ ?_
     rotate_left
     ·intro w'
      go_simp
      with_reducible rfl
     rotate_left
     ·simp only [Act.put, List.setIfInBounds_toArray, List.set_cons_zero, List.set_cons_succ, i64_w, i32_w]
      rfl
     refine pure_ (i := 3) (N := some 39) (v := ?_) (a' := ?_) #[true, true, true, true, false, false, false, false, false, false, false, false, false, false, false, false] rfl rfl (any_of HT_.out (by kernel_rfl)) (fun _ _ _ h => h) (Or.inl ⟨by rfl, ?_⟩) ?_ ?_
     rotate_left
     ·intro w'
      go_simp
      with_reducible rfl
     rotate_left
     ·simp only [Act.put, List.setIfInBounds_toArray, List.set_cons_zero, List.set_cons_succ, i64_w, i32_w]
      rfl
     refine take_ (i := 4) (N := some 40) (v := ?_) (a' := ?_) #[true, true, true, true, true, false, false, false, false, false, false, false, false, false, false, false] rfl rfl (take_ofW HT_.out HW_.out (by kernel_rfl)) (fun _ _ _ h => h) (Or.inl ⟨by rfl, ?_⟩) hHeld ?_ ?_
     rotate_left
     ·rintro w' ⟨s0, s1, s2, s3⟩
      go_simp
      with_reducible rfl
     rotate_left
     ·simp only [Act.put, List.setIfInBounds_toArray, List.set_cons_zero, List.set_cons_succ, i64_w, i32_w]
      rfl
     refine take_ (i := 5) (N := some 41) (v := ?_) (a' := ?_) #[true, true, true, true, true, true, false, false, false, false, false, false, false, false, false, false] rfl rfl (take_ofW HT_.out HW_.out (by kernel_rfl)) (fun _ _ _ h => h) (Or.inl ⟨by rfl, ?_⟩) hHeld ?_ ?_
     rotate_left
     ·rintro w' ⟨s0, s1, s2, s3⟩
      go_simp
      with_reducible rfl
     rotate_left
     ·simp only [Act.put, List.setIfInBounds_toArray, List.set_cons_zero, List.set_cons_succ, i64_w, i32_w]
      rfl
     refine one_ (i := 6) (N := some 42) #[true, true, true, true, true, true, true, false, false, false, false, false, false, false, false, false] rfl rfl (one_of HT_.out (by kernel_rfl)) (by decide) (fun K hK => ?_)
     refine gs Try.func41 (by kernel_rfl) rfl #[.agg #[.int .i64 t480, .slice Ao17 t481.length co17], .agg #[.int .i64 t486, .slice Ao24 t487.length co24]] (by rfl) rfl rfl ?_
     with_reducible refine (spec_EqualLin.calls k t480 _ _ t481 t486 _ _ t487 true _ ?side1 ?side2 ?side3 ?side4 A28.out).mono ?_
     (case side1 => exact mc ((Kd.R_reads' HO483.out).2.2))
     (case side2 => exact (Kd.R_reads' HO483.out).2.1)
     (case side3 => exact mc ((Kd.R_reads' HO489.out).2.2))
     (case side4 => exact (Kd.R_reads' HO489.out).2.1)
     rintro e w34 ⟨rfl, hb⟩
     refine ⟨_, rfl, ?_⟩
     replace HO475 := bN HO475 hb
     replace HO478 := rb HO478 hb
     replace HO483 := rb HO483 hb
     replace HO489 := rb HO489 hb
     replace BK479 := bb BK479 hb
     replace BK485 := bb BK485 hb
     replace BK491 := bb BK491 hb
     replace HB := bs HB hb
     (try clear hb)
     (try clear hb2)
     (try clear hk)
     (try clear hi)
     refine hK.out _ _ ⟨(c2 BK485).1, (c2 BK485).2, (c2 BK491).1, (c2 BK491).2⟩ (fun hHeld => ?_)
     clear hK K
     refine norm_ (a' := ?_) ?_ ?_
     rotate_left
     ·show Act.put _ (some 42) _ = _
      simp only [Act.put, List.setIfInBounds_toArray, List.set_cons_zero, List.set_cons_succ, i64_w, i32_w]
      rfl
     refine pure_ (i := 7) (N := some 43) (v := ?_) (a' := ?_) #[true, true, true, true, true, true, true, true, false, false, false, false, false, false, false, false] rfl rfl (any_of HT_.out (by kernel_rfl)) (fun _ _ _ h => h) (Or.inl ⟨by rfl, ?_⟩) ?_ ?_
     rotate_left
     ·intro w'
      go_simp
      with_reducible rfl
     rotate_left
     ·simp only [Act.put, List.setIfInBounds_toArray, List.set_cons_zero, List.set_cons_succ, i64_w, i32_w]
      rfl
     refine pure_ (i := 8) (N := some 44) (v := ?_) (a' := ?_) #[true, true, true, true, true, true, true, true, true, false, false, false, false, false, false, false] rfl rfl (any_of HT_.out (by kernel_rfl)) (fun _ _ _ h => h) (Or.inl ⟨by rfl, ?_⟩) ?_ ?_
     rotate_left
     ·intro w'
      go_simp
      with_reducible rfl
     rotate_left
     ·simp only [Act.put, List.setIfInBounds_toArray, List.set_cons_zero, List.set_cons_succ, i64_w, i32_w]
      rfl
     refine pure_ (i := 9) (N := some 45) (v := ?_) (a' := ?_) #[true, true, true, true, true, true, true, true, true, true, false, false, false, false, false, false] rfl rfl (any_of HT_.out (by kernel_rfl)) (fun _ _ _ h => h) (Or.inl ⟨by rfl, ?_⟩) ?_ ?_
     rotate_left
     ·intro w'
      go_simp
      with_reducible rfl
     rotate_left
     ·simp only [Act.put, List.setIfInBounds_toArray, List.set_cons_zero, List.set_cons_succ, i64_w, i32_w]
      rfl
     refine take_ (i := 10) (N := some 46) (v := ?_) (a' := ?_) #[true, true, true, true, true, true, true, true, true, true, true, false, false, false, false, false] rfl rfl (take_ofW HT_.out HW_.out (by kernel_rfl)) (fun _ _ _ h => h) (Or.inl ⟨by rfl, ?_⟩) hHeld ?_ ?_
     rotate_left
     ·rintro w' ⟨s0, s1, s2, s3⟩
      go_simp
      with_reducible rfl
     rotate_left
     ·simp only [Act.put, List.setIfInBounds_toArray, List.set_cons_zero, List.set_cons_succ, i64_w, i32_w]
      rfl
     refine take_ (i := 12) (N := some 48) (v := ?_) (a' := ?_) #[true, true, true, true, true, true, true, true, true, true, true, false, true, false, false, false] rfl rfl (take_ofW HT_.out HW_.out (by kernel_rfl)) (fun _ _ _ h => h) (Or.inl ⟨by rfl, ?_⟩) hHeld ?_ ?_
     rotate_left
     ·rintro w' ⟨s0, s1, s2, s3⟩
      go_simp
      with_reducible rfl
     rotate_left
     ·simp only [Act.put, List.setIfInBounds_toArray, List.set_cons_zero, List.set_cons_succ, i64_w, i32_w]
      rfl
     refine one_ (i := 11) (N := some 47) #[true, true, true, true, true, true, true, true, true, true, true, true, true, false, false, false] rfl rfl (one_of HT_.out (by kernel_rfl)) (by decide) (fun K hK => ?_)
     refine gs Try.func42 (by kernel_rfl) rfl #[.agg #[.int .i64 t480, .slice Ao17 t481.length co17]] (by rfl) rfl rfl ?_
     with_reducible refine (impl_IsConstant.calls k t480 _ _ t481 t493 _ ?side1 ?side2 A30.out).mono ?_
     (case side1 => exact mc ((Kd.R_reads' HO483.out).2.2))
     (case side2 => exact (Kd.R_reads' HO483.out).2.1)
     rintro e w35 ⟨rfl, hb⟩
     refine ⟨_, rfl, ?_⟩
     replace HO475 := bN HO475 hb
     replace HO478 := rb HO478 hb
     replace HO483 := rb HO483 hb
     replace HO489 := rb HO489 hb
     replace BK479 := bb BK479 hb
     replace BK485 := bb BK485 hb
     replace BK491 := bb BK491 hb
     replace HB := bs HB hb
     (try clear hb)
     (try clear hb2)
     (try clear hk)
     (try clear hi)
     refine hK.out _ _ ⟨(c2 BK485).1, (c2 BK485).2, (c2 BK491).1, (c2 BK491).2⟩ (fun hHeld => ?_)
     clear hK K
     refine norm_ (a' := ?_) ?_ ?_
     rotate_left
     ·show Act.put _ (some 47) _ = _
      simp only [Act.put, List.setIfInBounds_toArray, List.set_cons_zero, List.set_cons_succ, i64_w, i32_w]
      rfl
     refine one_ (i := 13) (N := some 49) #[true, true, true, true, true, true, true, true, true, true, true, true, true, true, false, false] rfl rfl (one_of HT_.out (by kernel_rfl)) (by decide) (fun K hK => ?_)
     refine gs Try.func43 (by kernel_rfl) rfl #[.agg #[.int .i64 t480, .slice Ao17 t481.length co17]] (by rfl) rfl rfl ?_
     with_reducible refine (spec_IsConstant.calls k t480 _ _ t481 t494 _ ?side1 ?side2 A31.out).mono ?_
     (case side1 => exact mc ((Kd.R_reads' HO483.out).2.2))
     (case side2 => exact (Kd.R_reads' HO483.out).2.1)
     rintro e w36 ⟨rfl, hb⟩
     refine ⟨_, rfl, ?_⟩
     replace HO475 := bN HO475 hb
     replace HO478 := rb HO478 hb
     replace HO483 := rb HO483 hb
     replace HO489 := rb HO489 hb
     replace BK479 := bb BK479 hb
     replace BK485 := bb BK485 hb
     replace BK491 := bb BK491 hb
     replace HB := bs HB hb
     (try clear hb)
     (try clear hb2)
     (try clear hk)
     (try clear hi)
     refine hK.out _ _ ⟨(c2 BK485).1, (c2 BK485).2, (c2 BK491).1, (c2 BK491).2⟩ (fun hHeld => ?_)
     clear hK K
     refine norm_ (a' := ?_) ?_ ?_
     rotate_left
     ·show Act.put _ (some 49) _ = _
      simp only [Act.put, List.setIfInBounds_toArray, List.set_cons_zero, List.set_cons_succ, i64_w, i32_w]
      rfl
     refine pure_ (i := 14) (N := some 50) (v := ?_) (a' := ?_) #[true, true, true, true, true, true, true, true, true, true, true, true, true, true, true, false] rfl rfl (any_of HT_.out (by kernel_rfl)) (fun _ _ _ h => h) (Or.inl ⟨by rfl, ?_⟩) ?_ ?_
     rotate_left
     ·intro w'
      go_simp
      with_reducible rfl
     rotate_left
     ·simp only [Act.put, List.setIfInBounds_toArray, List.set_cons_zero, List.set_cons_succ, i64_w, i32_w]
      rfl
     refine pure_ (i := 15) (N := some 51) (v := ?_) (a' := ?_) #[true, true, true, true, true, true, true, true, true, true, true, true, true, true, true, true] rfl rfl (any_of HT_.out (by kernel_rfl)) (fun _ _ _ h => h) (Or.inl ⟨by rfl, ?_⟩) ?_ ?_
     rotate_left
     ·intro w'
      go_simp
      with_reducible rfl
     rotate_left
     ·simp only [Act.put, List.setIfInBounds_toArray, List.set_cons_zero, List.set_cons_succ, i64_w, i32_w]
      rfl
     refine done_ (done_of HT_.out (by kernel_rfl)) ?_
     try go_wp2
     go_meet
     case rel => exact ⟨_, ((t493 != t494)), (by first | rfl | (simp; done) | (simp [*]; done)), H', ⟨by first | omega | exact Nat.le_refl _⟩, ⟨by (with_reducible repeat (first | apply Kd.N_alloc | apply Kd.N_drewN | apply Kd.N_drew)); exact Kd.N_mono HO475.out (fun _ hk => ⟨hk.2.1, ⟨hk.2.2.1, ⟨hk.2.2.2.1, ⟨hk.2.2.2.2.1, hk.2.2.2.2.2⟩⟩⟩⟩)⟩, ⟨by (with_reducible repeat (first | apply Kd.R_alloc | apply Kd.R_drewN | apply Kd.R_drew)); exact Kd.R_mono HO483.out (fun _ hk => hk.2)⟩, ⟨by (with_reducible repeat (first | apply Kd.R_alloc | apply Kd.R_drewN | apply Kd.R_drew)); exact Kd.R_mono HO489.out (fun _ hk => hk.2)⟩, ⟨mb BK479⟩, ⟨mb BK485⟩, ⟨mb BK491⟩, ⟨ms HB⟩⟩
    ·replace c29 := Bool.eq_false_iff.mpr c29
     subst c29
     have H1 : (laws_FnCombined.j0 k l0 t484 true t472 t473 t480 t481) = some r := by rw [if_neg (show ¬ (false = true) by decide)] at H; exact H
     clear H
     have H := H1
     clear H1
     have H' := Aside0.mk H
     clear H
     try go_wp2
     have n0_ : Aside0 (Kd.N k36 36 ((w20.setCell ⟨gb491, 0, none⟩ (.int .i64 t486)).setCell ⟨gb491, 1, none⟩ (.slice Ao24 t487.length co24)) w.heap.size (fun k_ => some k_ ≠ (.slice Ao12 t476.length co12 : Value).ownBlock ∧ some k_ ≠ (.slice Ao17 t481.length co17 : Value).ownBlock ∧ some k_ ≠ (.slice Ao24 t487.length co24 : Value).ownBlock ∧ k_ ≠ gb479 ∧ k_ ≠ gb485 ∧ k_ ≠ gb491) (.slice Ao11 t473.length co11) t473) := ⟨by (with_reducible repeat (first | apply Kd.N_alloc | apply Kd.N_drewN | apply Kd.N_drew)); exact Kd.N_mono (Kd.N_far (p := ⟨gb491, 1, none⟩) (Kd.N_far (p := ⟨gb491, 0, none⟩) (Kd.N_mono HO475.out (fun k_ hk => (⟨hk, hk.2⟩ : _ ∧ k_ ≠ gb491))) (fun _ hk => hk.2) (.int .i64 t486)) (fun _ hk => hk.2) (.slice Ao24 t487.length co24)) (fun _ hk => ⟨hk.1.1.1.1.1.1, ⟨hk.1.1.1.1.2, ⟨hk.1.1.2, ⟨hk.1.1.1.1.1.2, ⟨hk.1.1.1.2, hk.1.2⟩⟩⟩⟩⟩)⟩
     have n1_ : Aside0 (Kd.R (Kd.int .i64) 3 ((w20.setCell ⟨gb491, 0, none⟩ (.int .i64 t486)).setCell ⟨gb491, 1, none⟩ (.slice Ao24 t487.length co24)) w.heap.size (fun k_ => some k_ ≠ (.slice Ao17 t481.length co17 : Value).ownBlock ∧ some k_ ≠ (.slice Ao24 t487.length co24 : Value).ownBlock) (.slice Ao12 t476.length co12) t476) := ⟨by (with_reducible repeat (first | apply Kd.R_alloc | apply Kd.R_drewN | apply Kd.R_drew)); exact Kd.R_mono (Kd.R_far (p := ⟨gb491, 1, none⟩) (Kd.R_far (p := ⟨gb491, 0, none⟩) (Kd.R_types HO478.out BK491.out (by decide)) (fun _ hk => hk.2) (.int .i64 t486)) (fun _ hk => hk.2) (.slice Ao24 t487.length co24)) (fun _ hk => ⟨hk.1.1.2, hk.1.2⟩)⟩
     have n2_ : Aside0 (Kd.R (Kd.int .i64) 3 ((w20.setCell ⟨gb491, 0, none⟩ (.int .i64 t486)).setCell ⟨gb491, 1, none⟩ (.slice Ao24 t487.length co24)) w.heap.size (fun k_ => some k_ ≠ (.slice Ao12 t476.length co12 : Value).ownBlock ∧ some k_ ≠ (.slice Ao24 t487.length co24 : Value).ownBlock) (.slice Ao17 t481.length co17) t481) := ⟨by (with_reducible repeat (first | apply Kd.R_alloc | apply Kd.R_drewN | apply Kd.R_drew)); exact Kd.R_mono (Kd.R_far (p := ⟨gb491, 1, none⟩) (Kd.R_far (p := ⟨gb491, 0, none⟩) (Kd.R_types HO483.out BK491.out (by decide)) (fun _ hk => hk.2) (.int .i64 t486)) (fun _ hk => hk.2) (.slice Ao24 t487.length co24)) (fun _ hk => ⟨hk.1.1.2, hk.1.2⟩)⟩
     have n3_ : Aside0 (Kd.R (Kd.int .i64) 3 ((w20.setCell ⟨gb491, 0, none⟩ (.int .i64 t486)).setCell ⟨gb491, 1, none⟩ (.slice Ao24 t487.length co24)) w.heap.size (fun k_ => some k_ ≠ (.slice Ao12 t476.length co12 : Value).ownBlock ∧ some k_ ≠ (.slice Ao17 t481.length co17 : Value).ownBlock) (.slice Ao24 t487.length co24) t487) := ⟨by (with_reducible repeat (first | apply Kd.R_alloc | apply Kd.R_drewN | apply Kd.R_drew)); exact Kd.R_mono (Kd.R_far (p := ⟨gb491, 1, none⟩) (Kd.R_far (p := ⟨gb491, 0, none⟩) (Kd.R_types HO489.out BK491.out (by decide)) (fun _ hk => hk.2) (.int .i64 t486)) (fun _ hk => hk.2) (.slice Ao24 t487.length co24)) (fun _ hk => ⟨hk.1.1.2, hk.1.2⟩)⟩
     have n4_ : Aside0 (((w20.setCell ⟨gb491, 0, none⟩ (.int .i64 t486)).setCell ⟨gb491, 1, none⟩ (.slice Ao24 t487.length co24)).heap[gb479]? = some (.cells #[.int .i64 t472, .slice Ao11 t473.length co11] 32 (0, 0))) := ⟨by (with_reducible repeat (first | refine blk_drewN ?_ _ | refine blk_drew ?_ | refine blk_alloc ?_ _)); refine blk_far ?_ NB479_491.out _; (with_reducible repeat (first | refine blk_drewN ?_ _ | refine blk_drew ?_ | refine blk_alloc ?_ _)); refine blk_far ?_ NB479_491.out _; (with_reducible repeat (first | refine blk_drewN ?_ _ | refine blk_drew ?_ | refine blk_alloc ?_ _)); exact BK479.out⟩
     have n5_ : Aside0 (((w20.setCell ⟨gb491, 0, none⟩ (.int .i64 t486)).setCell ⟨gb491, 1, none⟩ (.slice Ao24 t487.length co24)).heap[gb485]? = some (.cells #[.int .i64 t480, .slice Ao17 t481.length co17] 36 (0, 0))) := ⟨by (with_reducible repeat (first | refine blk_drewN ?_ _ | refine blk_drew ?_ | refine blk_alloc ?_ _)); refine blk_far ?_ NB485_491.out _; (with_reducible repeat (first | refine blk_drewN ?_ _ | refine blk_drew ?_ | refine blk_alloc ?_ _)); refine blk_far ?_ NB485_491.out _; (with_reducible repeat (first | refine blk_drewN ?_ _ | refine blk_drew ?_ | refine blk_alloc ?_ _)); exact BK485.out⟩
     have n6_ : Aside0 (((w20.setCell ⟨gb491, 0, none⟩ (.int .i64 t486)).setCell ⟨gb491, 1, none⟩ (.slice Ao24 t487.length co24)).heap[gb491]? = some (.cells #[.int .i64 t486, .slice Ao24 t487.length co24] 36 (0, 0))) := ⟨by (with_reducible repeat (first | refine blk_drewN ?_ _ | refine blk_drew ?_ | refine blk_alloc ?_ _)); refine blk_put (cs := #[.int .i64 t486, .slice none 0 0]) ?_ 1 _ rfl; (with_reducible repeat (first | refine blk_drewN ?_ _ | refine blk_drew ?_ | refine blk_alloc ?_ _)); refine blk_put (cs := #[.int .i64 0, .slice none 0 0]) ?_ 0 _ rfl; (with_reducible repeat (first | refine blk_drewN ?_ _ | refine blk_drew ?_ | refine blk_alloc ?_ _)); exact BK491.out⟩
     have n7_ : Aside0 (Below w.heap.size w ((w20.setCell ⟨gb491, 0, none⟩ (.int .i64 t486)).setCell ⟨gb491, 1, none⟩ (.slice Ao24 t487.length co24))) := ⟨ms HB⟩
     (try clear HO475)
     (try clear HO478)
     (try clear HO483)
     (try clear HO489)
     (try clear BK479)
     (try clear BK485)
     (try clear BK491)
     (try clear HB)
     generalize ((w20.setCell ⟨gb491, 0, none⟩ (.int .i64 t486)).setCell ⟨gb491, 1, none⟩ (.slice Ao24 t487.length co24)) = w37 at n0_ n1_ n2_ n3_ n4_ n5_ n6_ n7_ ⊢
     have HO475 := n0_
     have HO478 := n1_
     have HO483 := n2_
     have HO489 := n3_
     have BK479 := n4_
     have BK485 := n5_
     have BK491 := n6_
     have HB := n7_
     clear n0_ n1_ n2_ n3_ n4_ n5_ n6_ n7_
     replace HO475 := Aside0.mk (Kd.N_drew HO475.out)
     replace HO478 := Aside0.mk (Kd.R_drew HO478.out)
     replace HO483 := Aside0.mk (Kd.R_drew HO483.out)
     replace HO489 := Aside0.mk (Kd.R_drew HO489.out)
     replace BK479 := Aside0.mk (blk_drew BK479.out)
     replace BK485 := Aside0.mk (blk_drew BK485.out)
     replace BK491 := Aside0.mk (blk_drew BK491.out)
     replace HB := Aside0.mk (below_drew1 HB.out)
     refine start_ (n := 16) (S := fun w' => w'.cell? ⟨gb485, 0, none⟩ = some (.int .i64 t480) ∧ w'.cell? ⟨gb485, 1, none⟩ = some (.slice Ao17 t481.length co17) ∧ w'.cell? ⟨gb491, 0, none⟩ = some (.int .i64 t486) ∧ w'.cell? ⟨gb491, 1, none⟩ = some (.slice Ao24 t487.length co24)) (ds := []) #[false, false, false, false, false, false, false, false, false, false, false, false, false, false, false, false] (by kernel_rfl) rfl rfl ⟨(c2 BK485).1, (c2 BK485).2, (c2 BK491).1, (c2 BK491).2⟩ (fun hHeld => ?_); refine with_tabW laws_FnCombined.tab6 laws_FnCombined.bits6 (fun HT_ HW_ => ?_)
     generalize w37.drew = w38 at HO475 HO478 HO483 HO489 BK479 BK485 BK491 HB hHeld ⊢
     refine pure_ (i := 0) (N := some 36) (v := ?_) (a' := ?_) #[true, false, false, false, false, false, false, false, false, false, false, false, false, false, false, false] rfl rfl (any_of HT_.out (by kernel_rfl)) (fun _ _ _ h => h) (Or.inl ⟨by rfl, ?_⟩) ?_ ?_
     rotate_left
     ·intro w'
      go_simp
      with_reducible rfl
     rotate_left
     ·simp only [Act.put, List.setIfInBounds_toArray, List.set_cons_zero, List.set_cons_succ, i64_w, i32_w]
      rfl
     refine pure_ (i := 1) (N := some 37) (v := ?_) (a' := ?_) #[true, true, false, false, false, false, false, false, false, false, false, false, false, false, false, false] rfl rfl (any_of HT_.out (by kernel_rfl)) (fun _ _ _ h => h) (Or.inl ⟨by rfl, ?_⟩) ?_ ?_
     rotate_left
     ·intro w'
      go_simp
      with_reducible rfl
     rotate_left
     ·simp only [Act.put, List.setIfInBounds_toArray, List.set_cons_zero, List.set_cons_succ, i64_w, i32_w]
      rfl
     refine pure_ (i := 2) (N := some 38) (v := ?_) (a' := ?_) #[true, true, true, false, false, false, false, false, false, false, false, false, false, false, false, false] rfl rfl (any_of HT_.out (by kernel_rfl)) (fun _ _ _ h => h) (Or.inl ⟨by rfl, ?_⟩) ?_ ?_
     rotate_left
     ·intro w'
      go_simp
      with_reducible rfl
     rotate_left
     ·simp only [Act.put, List.setIfInBounds_toArray, List.set_cons_zero, List.set_cons_succ, i64_w, i32_w]
      rfl
     refine pure_ (i := 3) (N := some 39) (v := ?_) (a' := ?_) #[true, true, true, true, false, false, false, false, false, false, false, false, false, false, false, false] rfl rfl (any_of HT_.out (by kernel_rfl)) (fun _ _ _ h => h) (Or.inl ⟨by rfl, ?_⟩) ?_ ?_
     rotate_left
     ·intro w'
      go_simp
      with_reducible rfl
     rotate_left
     ·simp only [Act.put, List.setIfInBounds_toArray, List.set_cons_zero, List.set_cons_succ, i64_w, i32_w]
      rfl
     refine take_ (i := 4) (N := some 40) (v := ?_) (a' := ?_) #[true, true, true, true, true, false, false, false, false, false, false, false, false, false, false, false] rfl rfl (take_ofW HT_.out HW_.out (by kernel_rfl)) (fun _ _ _ h => h) (Or.inl ⟨by rfl, ?_⟩) hHeld ?_ ?_
     rotate_left
     ·rintro w' ⟨s0, s1, s2, s3⟩
      go_simp
      with_reducible rfl
     rotate_left
     ·simp only [Act.put, List.setIfInBounds_toArray, List.set_cons_zero, List.set_cons_succ, i64_w, i32_w]
      rfl
     refine take_ (i := 5) (N := some 41) (v := ?_) (a' := ?_) #[true, true, true, true, true, true, false, false, false, false, false, false, false, false, false, false] rfl rfl (take_ofW HT_.out HW_.out (by kernel_rfl)) (fun _ _ _ h => h) (Or.inl ⟨by rfl, ?_⟩) hHeld ?_ ?_
     rotate_left
     ·rintro w' ⟨s0, s1, s2, s3⟩
      go_simp
      with_reducible rfl
     rotate_left
     ·simp only [Act.put, List.setIfInBounds_toArray, List.set_cons_zero, List.set_cons_succ, i64_w, i32_w]
      rfl
     refine one_ (i := 6) (N := some 42) #[true, true, true, true, true, true, true, false, false, false, false, false, false, false, false, false] rfl rfl (one_of HT_.out (by kernel_rfl)) (by decide) (fun K hK => ?_)
     refine gs Try.func41 (by kernel_rfl) rfl #[.agg #[.int .i64 t480, .slice Ao17 t481.length co17], .agg #[.int .i64 t486, .slice Ao24 t487.length co24]] (by rfl) rfl rfl ?_
     with_reducible refine (spec_EqualLin.calls k t480 _ _ t481 t486 _ _ t487 false _ ?side1 ?side2 ?side3 ?side4 A28.out).mono ?_
     (case side1 => exact mc ((Kd.R_reads' HO483.out).2.2))
     (case side2 => exact (Kd.R_reads' HO483.out).2.1)
     (case side3 => exact mc ((Kd.R_reads' HO489.out).2.2))
     (case side4 => exact (Kd.R_reads' HO489.out).2.1)
     rintro e w39 ⟨rfl, hb⟩
     refine ⟨_, rfl, ?_⟩
     replace HO475 := bN HO475 hb
     replace HO478 := rb HO478 hb
     replace HO483 := rb HO483 hb
     replace HO489 := rb HO489 hb
     replace BK479 := bb BK479 hb
     replace BK485 := bb BK485 hb
     replace BK491 := bb BK491 hb
     replace HB := bs HB hb
     (try clear hb)
     (try clear hb2)
     (try clear hk)
     (try clear hi)
     refine hK.out _ _ ⟨(c2 BK485).1, (c2 BK485).2, (c2 BK491).1, (c2 BK491).2⟩ (fun hHeld => ?_)
     clear hK K
     refine norm_ (a' := ?_) ?_ ?_
     rotate_left
     ·show Act.put _ (some 42) _ = _
      simp only [Act.put, List.setIfInBounds_toArray, List.set_cons_zero, List.set_cons_succ, i64_w, i32_w]
      rfl
     refine pure_ (i := 7) (N := some 43) (v := ?_) (a' := ?_) #[true, true, true, true, true, true, true, true, false, false, false, false, false, false, false, false] rfl rfl (any_of HT_.out (by kernel_rfl)) (fun _ _ _ h => h) (Or.inl ⟨by rfl, ?_⟩) ?_ ?_
     rotate_left
     ·intro w'
      go_simp
      with_reducible rfl
     rotate_left
     ·simp only [Act.put, List.setIfInBounds_toArray, List.set_cons_zero, List.set_cons_succ, i64_w, i32_w]
      rfl
     refine pure_ (i := 8) (N := some 44) (v := ?_) (a' := ?_) #[true, true, true, true, true, true, true, true, true, false, false, false, false, false, false, false] rfl rfl (any_of HT_.out (by kernel_rfl)) (fun _ _ _ h => h) (Or.inl ⟨by rfl, ?_⟩) ?_ ?_
     rotate_left
     ·intro w'
      go_simp
      with_reducible rfl
     rotate_left
     ·simp only [Act.put, List.setIfInBounds_toArray, List.set_cons_zero, List.set_cons_succ, i64_w, i32_w]
      rfl
     refine pure_ (i := 9) (N := some 45) (v := ?_) (a' := ?_) #[true, true, true, true, true, true, true, true, true, true, false, false, false, false, false, false] rfl rfl (any_of HT_.out (by kernel_rfl)) (fun _ _ _ h => h) (Or.inl ⟨by rfl, ?_⟩) ?_ ?_
     rotate_left
     ·intro w'
      go_simp
      with_reducible rfl
     rotate_left
     ·simp only [Act.put, List.setIfInBounds_toArray, List.set_cons_zero, List.set_cons_succ, i64_w, i32_w]
      rfl
     refine pure_ (i := 10) (N := some 46) (v := undef) (a' := ?_) #[true, true, true, true, true, true, true, true, true, true, true, false, false, false, false, false] rfl rfl (any_of HT_.out (by kernel_rfl)) (fun _ _ _ h => h) (Or.inr ⟨by rfl, rfl⟩) ?_ ?_
     rotate_left
     ·simp only [Act.put, List.setIfInBounds_toArray, List.set_cons_zero, List.set_cons_succ, i64_w, i32_w]
      rfl
     refine pure_ (i := 11) (N := some 47) (v := undef) (a' := ?_) #[true, true, true, true, true, true, true, true, true, true, true, true, false, false, false, false] rfl rfl (any_of HT_.out (by kernel_rfl)) (fun _ _ _ h => h) (Or.inr ⟨by rfl, rfl⟩) ?_ ?_
     rotate_left
     ·simp only [Act.put, List.setIfInBounds_toArray, List.set_cons_zero, List.set_cons_succ, i64_w, i32_w]
      rfl
     refine pure_ (i := 12) (N := some 48) (v := undef) (a' := ?_) #[true, true, true, true, true, true, true, true, true, true, true, true, true, false, false, false] rfl rfl (any_of HT_.out (by kernel_rfl)) (fun _ _ _ h => h) (Or.inr ⟨by rfl, rfl⟩) ?_ ?_
     rotate_left
     ·simp only [Act.put, List.setIfInBounds_toArray, List.set_cons_zero, List.set_cons_succ, i64_w, i32_w]
      rfl
     refine pure_ (i := 13) (N := some 49) (v := undef) (a' := ?_) #[true, true, true, true, true, true, true, true, true, true, true, true, true, true, false, false] rfl rfl (any_of HT_.out (by kernel_rfl)) (fun _ _ _ h => h) (Or.inr ⟨by rfl, rfl⟩) ?_ ?_
     rotate_left
     ·simp only [Act.put, List.setIfInBounds_toArray, List.set_cons_zero, List.set_cons_succ, i64_w, i32_w]
      rfl
     refine pure_ (i := 14) (N := some 50) (v := undef) (a' := ?_) #[true, true, true, true, true, true, true, true, true, true, true, true, true, true, true, false] rfl rfl (any_of HT_.out (by kernel_rfl)) (fun _ _ _ h => h) (Or.inr ⟨by rfl, rfl⟩) ?_ ?_
     rotate_left
     ·simp only [Act.put, List.setIfInBounds_toArray, List.set_cons_zero, List.set_cons_succ, i64_w, i32_w]
      rfl
     refine pure_ (i := 15) (N := some 51) (v := ?_) (a' := ?_) #[true, true, true, true, true, true, true, true, true, true, true, true, true, true, true, true] rfl rfl (any_of HT_.out (by kernel_rfl)) (fun _ _ _ h => h) (Or.inl ⟨by rfl, ?_⟩) ?_ ?_
     rotate_left
     ·intro w'
      go_simp
      with_reducible rfl
     rotate_left
     ·simp only [Act.put, List.setIfInBounds_toArray, List.set_cons_zero, List.set_cons_succ, i64_w, i32_w]
      rfl
     refine done_ (done_of HT_.out (by kernel_rfl)) ?_
     try go_wp2
     go_meet
     case rel => exact ⟨_, (true), (by first | rfl | (simp; done) | (simp [*]; done)), H', ⟨by first | omega | exact Nat.le_refl _⟩, ⟨by (with_reducible repeat (first | apply Kd.N_alloc | apply Kd.N_drewN | apply Kd.N_drew)); exact Kd.N_mono HO475.out (fun _ hk => ⟨hk.2.1, ⟨hk.2.2.1, ⟨hk.2.2.2.1, ⟨hk.2.2.2.2.1, hk.2.2.2.2.2⟩⟩⟩⟩)⟩, ⟨by (with_reducible repeat (first | apply Kd.R_alloc | apply Kd.R_drewN | apply Kd.R_drew)); exact Kd.R_mono HO483.out (fun _ hk => hk.2)⟩, ⟨by (with_reducible repeat (first | apply Kd.R_alloc | apply Kd.R_drewN | apply Kd.R_drew)); exact Kd.R_mono HO489.out (fun _ hk => hk.2)⟩, ⟨mb BK479⟩, ⟨mb BK485⟩, ⟨mb BK491⟩, ⟨ms HB⟩⟩
  case rest =>
   clear HC7
   try clear c2
   try clear p2
   try clear c4
   try clear c25
   try clear c25b0
   try clear c25b1
   try clear c25b2
   try clear c29
   obtain ⟨kq, x51_6, rfl, HA, HJ6, HO_480001, HO_486001, HO_492001, BK479, BK485, BK491, HB⟩ := hcut
   cases kq with
   | zero => exact absurd HA.out (by simp [laws_FnCombined.j0])
   | succ kj6 =>
    have H := HA.out
    clear HA
    simp only [laws_FnCombined.j0] at H
    by_cases c40 : x51_6 = true
    ·subst c40
     have H1 : (some false) = some r := by rw [if_pos rfl] at H; exact H
     clear H
     have H := H1
     clear H1
     obtain rfl := Option.some.inj H
     go_wp2
     go_ret
     exact ⟨by first | rfl | (simp [errW_none, errW_some] <;> rfl) | (simp [*, errW_none, errW_some] <;> rfl), ms HB⟩
    ·replace c40 := Bool.eq_false_iff.mpr c40
     subst c40
     have H1 : (laws_FnCombined.l0 kj6 l0 t484 (([] : List Int)) 0 t472 t473 t480 t481) = some r := by rw [if_neg (show ¬ (false = true) by decide)] at H; exact H
     clear H
     have H := H1
     clear H1
     obtain ⟨y495, hy495⟩ : ∃ y_ : List Int, y_ = (([] : List Int)) := ⟨_, rfl⟩
     replace H : (laws_FnCombined.l0 kj6 l0 t484 y495 0 t472 t473 t480 t481) = some r := by first | (rw [hy495]; with_reducible exact H) | (have H2_ := (Option.bind_some _ _).symm.trans H; rw [hy495]; with_reducible exact H2_) | (have H2_ := (Option.bind_some _ _).symm.trans H; with_reducible exact H2_) | with_reducible exact H | (rw [hy495]; exact H) | exact H
     have Ny495 := Aside0.mk hy495
     clear hy495
     have H' := Aside0.mk H
     clear H
     go_wp2_with (first | ((with_reducible refine gate_dst (N := 52) rfl ?_); refine Kd.R_lit (Kd.int .i64) _ 3 ?hg (N := 52) ?hd (xs := ([] : List Int)) (inner := []) (ok := fun _ => True) (okp := fun _ => True) ?hr ?hp (fun _ hk => hk) trivial (Below.refl _ _) (Nat.le_refl _) (by simp) ?_; (case hd => rfl); (case hg => rfl); (case hr => first | (go_simp; done) | (go_simp; rfl)); (case hp => exact (Reps.none _ _)); intro v496 w41 ho42 hb hg_ hnew_; clear hg_ hnew_; (first | rw [← Ny495.out] at ho42 | (simp only [Int.reduceToNat] at ho42; rw [← Ny495.out] at ho42)); replace HO_480001 := lN HO_480001 ho42 hb; have HO497 := Aside0.mk (Kd.R_lower (Kd.R_new' (Kd.R_new' ho42 (Kd.R_lt (mr HO_486001))) (Kd.R_lt (mr HO_492001))) (below_size (ms HB))); replace HO_486001 := rl HO_486001 ho42 hb; replace HO_492001 := rl HO_492001 ho42 hb; replace BK479 := bb BK479 hb; replace BK485 := bb BK485 hb; replace BK491 := bb BK491 hb; replace HB := bs HB hb; clear hb ho42))
     go_loopg [9, 10] kj6 (fun kq v9 v10 w' => ∃ (x9_2 : List Int) (x10_2 : Int), v10 = .int .i64 x10_2 ∧ Aside0 (laws_FnCombined.l0 kq l0 t484 x9_2 x10_2 t472 t473 t480 t481 = some r) ∧ Aside0 (kq ≤ kj6) ∧ Aside0 (Kd.R (Kd.int .i64) 3 w' w.heap.size (fun k_ => some k_ ≠ ((.slice Ao17 t481.length co17) : Value).ownBlock ∧ some k_ ≠ ((.slice Ao24 t487.length co24) : Value).ownBlock) v9 x9_2) ∧ Aside0 (Kd.N k36 36 w' w.heap.size (fun k_ => some k_ ≠ (v9 : Value).ownBlock ∧ some k_ ≠ ((.slice Ao17 t481.length co17) : Value).ownBlock ∧ some k_ ≠ ((.slice Ao24 t487.length co24) : Value).ownBlock ∧ k_ ≠ gb479 ∧ k_ ≠ gb485 ∧ k_ ≠ gb491) (.slice Ao11 t473.length co11) t473) ∧ Aside0 (Kd.R (Kd.int .i64) 3 w' w.heap.size (fun k_ => some k_ ≠ (v9 : Value).ownBlock ∧ some k_ ≠ ((.slice Ao24 t487.length co24) : Value).ownBlock) (.slice Ao17 t481.length co17) t481) ∧ Aside0 (Kd.R (Kd.int .i64) 3 w' w.heap.size (fun k_ => some k_ ≠ (v9 : Value).ownBlock ∧ some k_ ≠ ((.slice Ao17 t481.length co17) : Value).ownBlock) (.slice Ao24 t487.length co24) t487) ∧ Aside0 (w'.heap[gb479]? = some (.cells #[.int .i64 t472, (.slice Ao11 t473.length co11)] 32 (0, 0))) ∧ Aside0 (w'.heap[gb485]? = some (.cells #[.int .i64 t480, (.slice Ao17 t481.length co17)] 36 (0, 0))) ∧ Aside0 (w'.heap[gb491]? = some (.cells #[.int .i64 t486, (.slice Ao24 t487.length co24)] 36 (0, 0))) ∧ Aside0 (Below w.heap.size w w'))
     case atStart => exact ⟨(y495), (0), (by first | rfl | (simp; done) | (simp [*]; done)), H', ⟨Nat.le_refl _⟩, ⟨by (with_reducible repeat (first | apply Kd.R_alloc | apply Kd.R_drewN | apply Kd.R_drew)); exact Kd.R_mono HO497.out (fun _ hk => ⟨hk.1.2, hk.2⟩)⟩, ⟨by (with_reducible repeat (first | apply Kd.N_alloc | apply Kd.N_drewN | apply Kd.N_drew)); exact Kd.N_mono HO_480001.out (fun _ hk => ⟨hk.2, ⟨hk.1.1, ⟨hk.1.2.1, ⟨hk.1.2.2.1, ⟨hk.1.2.2.2.1, hk.1.2.2.2.2⟩⟩⟩⟩⟩)⟩, ⟨by (with_reducible repeat (first | apply Kd.R_alloc | apply Kd.R_drewN | apply Kd.R_drew)); exact Kd.R_mono HO_486001.out (fun _ hk => ⟨hk.2, hk.1⟩)⟩, ⟨by (with_reducible repeat (first | apply Kd.R_alloc | apply Kd.R_drewN | apply Kd.R_drew)); exact Kd.R_mono HO_492001.out (fun _ hk => ⟨hk.2, hk.1⟩)⟩, ⟨mb BK479⟩, ⟨mb BK485⟩, ⟨mb BK491⟩, ⟨ms HB⟩⟩
     case round =>
      clear H'
      try clear c2
      try clear p2
      try clear c4
      try clear c25
      try clear c25b0
      try clear c25b1
      try clear c25b2
      try clear c29
      try clear c40
      try clear c41
      try clear c42
      try clear p2
      obtain ⟨x9_2, x10_2, rfl, HA, HK2, HO_9, HO_480001, HO_486001, HO_492001, BK479, BK485, BK491, HB⟩ := hrel
      cases gk with
      | zero => exact absurd HA.out (by simp [laws_FnCombined.l0])
      | succ k2 =>
       have H := HA.out
       clear HA
       simp only [laws_FnCombined.l0] at H
       by_cases c43 : x10_2 < t472
       ·rw [if_pos c43] at H
        have c43b0 : decide (x10_2 < t472) = true := decide_eq_true c43
        clear c43
        replace H := Option.bind_eq_some_iff.mp H
        obtain ⟨t498, A440, H⟩ := H
        replace H : (if x9_2.length < 17592186044416 then (laws_FnCombined.l0 k2 l0 t484 (x9_2 ++ [wrap64 ((Int.tmod t498 14) - 4)]) (wrap64 (x10_2 + 1)) t472 t473 t480 t481) else (none)) = some r := H
        have A44 := Aside0.mk A440
        clear A440
        by_cases c45 : x9_2.length < 17592186044416
        ·rw [if_pos c45] at H
         have LMc45 := Aside0.mk c45
         clear c45
         obtain ⟨y499, hy499⟩ : ∃ y_ : List Int, y_ = (x9_2 ++ [wrap64 ((Int.tmod t498 14) - 4)]) := ⟨_, rfl⟩
         replace H : (laws_FnCombined.l0 k2 l0 t484 y499 (wrap64 (x10_2 + 1)) t472 t473 t480 t481) = some r := by first | (rw [hy499]; with_reducible exact H) | (have H2_ := (Option.bind_some _ _).symm.trans H; rw [hy499]; with_reducible exact H2_) | (have H2_ := (Option.bind_some _ _).symm.trans H; with_reducible exact H2_) | with_reducible exact H | (rw [hy499]; exact H) | exact H
         have Ny499 := Aside0.mk hy499
         clear hy499
         have H' := Aside0.mk H
         clear H
         have hnb46 := NB479_485.out
         have hnc46 := NB485_479.out
         have hnb47 := NB479_491.out
         have hnc47 := NB491_479.out
         obtain ⟨hcz48_0, hcz48_1⟩ := c2 BK479
         have hfz48_0 := blk_frozen BK479.out 0
         have hfz48_1 := blk_frozen BK479.out 1
         go_wp2_with (first | ((with_reducible refine gate_callee (f := 36) rfl ?_); refine gl (some 62) rfl rfl Try.func36 (by kernel_rfl) rfl #[.slice A0 l0.length c0, .int .i64 x10_2] rfl ?_; (with_reducible refine (laws_at0.calls _ _ l0 x10_2 t498 _ ?side1 ?side2 A44.out).mono ?_); (case side1 => exact mc ((Kd.C_below HR0.out HB.out))); (case side2 => exact HC0.out); rintro e w' ⟨rfl, ⟨nd, rfl⟩⟩; refine ⟨_, rfl, ?_⟩) | ((with_reducible refine gate_builtin (b := .append) (xs := #[.tmp 59, .tmp 65]) rfl ?_); at_builtin; refine Kd.R_append (Kd.int .i64) (w0 := w) w.heap.size rfl (.tmp 59) (.tmp 65) 25 3 (.int .i64 0) 8 rfl Try.underlying25 info3 rfl (by decide) (by omega) u9 x9_2 (wrap64 ((Int.tmod t498 14) - 4)) [.int .i64 (wrap64 ((Int.tmod t498 14) - 4))] (fun k_ => some k_ ≠ (.slice Ao17 t481.length co17 : Value).ownBlock ∧ some k_ ≠ (.slice Ao24 t487.length co24 : Value).ownBlock) (fun _ => False) rfl rfl ?aP (fun _ hk => hk.elim) ?aF ?aO ?aB ?aS ?aL ?_; (case aP => exact rfl); (case aB => exact (ms HB)); (case aF => exact (fun k_ hk => ⟨Kd.fresh' (Kd.R_lt (mr HO_486001)) k_ hk, Kd.fresh' (Kd.R_lt (mr HO_492001)) k_ hk⟩)); (case aO => exact (mr HO_9)); (case aS => exact (below_size (ms HB))); (case aL => have := LMc45.out; omega); intro v500 w49 ho hb hg hat; rw [← Ny499.out] at ho; have n0_ := Aside0.mk (Kd.N_afterv (ok := (fun k_ => some k_ ≠ (.slice Ao17 t481.length co17 : Value).ownBlock ∧ some k_ ≠ (.slice Ao24 t487.length co24 : Value).ownBlock ∧ k_ ≠ gb479 ∧ k_ ≠ gb485 ∧ k_ ≠ gb491)) (by (with_reducible repeat (first | apply Kd.N_alloc | apply Kd.N_drewN | apply Kd.N_drew)); exact Kd.N_mono HO_480001.out (fun _ hk => ⟨⟨hk.2.1, ⟨hk.2.2.1, ⟨hk.2.2.2.1, ⟨hk.2.2.2.2.1, hk.2.2.2.2.2⟩⟩⟩⟩, hk.1⟩)) hg hat); have n1_ := Aside0.mk (Kd.R_after (ok := (fun k_ => some k_ ≠ (.slice Ao24 t487.length co24 : Value).ownBlock)) (by (with_reducible repeat (first | apply Kd.R_alloc | apply Kd.R_drewN | apply Kd.R_drew)); exact Kd.R_mono HO_486001.out (fun _ hk => ⟨hk.2, hk.1⟩)) hg hat); have n2_ := Aside0.mk (Kd.R_after (ok := (fun k_ => some k_ ≠ (.slice Ao17 t481.length co17 : Value).ownBlock)) (by (with_reducible repeat (first | apply Kd.R_alloc | apply Kd.R_drewN | apply Kd.R_drew)); exact Kd.R_mono HO_492001.out (fun _ hk => ⟨hk.2, hk.1⟩)) hg hat); have n3_ := Aside0.mk (blk_grown (g := gb479) (o := .cells #[.int .i64 t472, .slice Ao11 t473.length co11] 32 (0, 0)) (mb BK479) hg (Kd.R_ne HO_9.out BK479.out (by decide))); have n4_ := Aside0.mk (blk_grown (g := gb485) (o := .cells #[.int .i64 t480, .slice Ao17 t481.length co17] 36 (0, 0)) (mb BK485) hg (Kd.R_ne HO_9.out BK485.out (by decide))); have n5_ := Aside0.mk (blk_grown (g := gb491) (o := .cells #[.int .i64 t486, .slice Ao24 t487.length co24] 36 (0, 0)) (mb BK491) hg (Kd.R_ne HO_9.out BK491.out (by decide))); have n6_ := Aside0.mk (hb); have n7_ := Aside0.mk (ho); clear HO_480001 HO_486001 HO_492001 BK479 BK485 BK491 HB HO_9; have HO_480001 := n0_; have HO_486001 := n1_; have HO_492001 := n2_; have BK479 := n3_; have BK485 := n4_; have BK491 := n5_; have HB := n6_; have HO501 := n7_; clear n0_ n1_ n2_ n3_ n4_ n5_ n6_ n7_; clear ho hb hg hat))
         go_roundg k2
         case measure => have := HJ6.out; have := HK2.out; omega
         case rel => exact ⟨(y499), (wrap64 (x10_2 + 1)), (by first | rfl | (simp; done) | (simp [*]; done)), H', ⟨by have := HJ6.out; have := HK2.out; omega⟩, ⟨by (with_reducible repeat (first | apply Kd.R_alloc | apply Kd.R_drewN | apply Kd.R_drew)); exact HO501.out⟩, ⟨by (with_reducible repeat (first | apply Kd.N_alloc | apply Kd.N_drewN | apply Kd.N_drew)); exact Kd.N_mono HO_480001.out (fun _ hk => ⟨hk.2, ⟨hk.1.1, ⟨hk.1.2.1, ⟨hk.1.2.2.1, ⟨hk.1.2.2.2.1, hk.1.2.2.2.2⟩⟩⟩⟩⟩)⟩, ⟨by (with_reducible repeat (first | apply Kd.R_alloc | apply Kd.R_drewN | apply Kd.R_drew)); exact Kd.R_mono HO_486001.out (fun _ hk => ⟨hk.2, hk.1⟩)⟩, ⟨by (with_reducible repeat (first | apply Kd.R_alloc | apply Kd.R_drewN | apply Kd.R_drew)); exact Kd.R_mono HO_492001.out (fun _ hk => ⟨hk.2, hk.1⟩)⟩, ⟨mb BK479⟩, ⟨mb BK485⟩, ⟨mb BK491⟩, ⟨ms HB⟩⟩
        ·rw [if_neg c45] at H
         exact absurd H (by simp)
       ·rw [if_neg c43] at H
        have c43b0 : decide (x10_2 < t472) = false := decide_eq_false c43
        clear c43
        replace H := Option.bind_eq_some_iff.mp H
        obtain ⟨⟨t502, t503⟩, A500, H⟩ := H
        replace H : (if t484 = true then ((spec_Satisfies.f k2 t472 t473 x9_2).bind fun t504 => (if t504 = true then (laws_FnCombined.j2 k2 l0 (decide (t502 < 0))) else (laws_FnCombined.j2 k2 l0 false))) else (laws_FnCombined.j2 k2 l0 false)) = some r := H
        have A50 := Aside0.mk A500
        clear A500
        have HC51 := Aside0.mk H
        clear H
        have hnb52 := NB479_485.out
        have hnc52 := NB485_479.out
        have hnb53 := NB479_491.out
        have hnc53 := NB491_479.out
        obtain ⟨hcz54_0, hcz54_1⟩ := c2 BK479
        have hfz54_0 := blk_frozen BK479.out 0
        have hfz54_1 := blk_frozen BK479.out 1
        have hnb55 := NB485_491.out
        have hnc55 := NB491_485.out
        obtain ⟨hcz56_0, hcz56_1⟩ := c2 BK485
        have hfz56_0 := blk_frozen BK485.out 0
        have hfz56_1 := blk_frozen BK485.out 1
        obtain ⟨Ao57, co57, eo57⟩ := Kd.R_slice HO_9.out
        subst eo57
        go_upto_region 14 with (first | ((with_reducible refine gate_callee (f := 37) rfl ?_); refine gl (some 70) rfl rfl Try.func37 (by kernel_rfl) rfl #[.agg #[.int .i64 t480, .slice Ao17 t481.length co17], .slice Ao57 x9_2.length co57] rfl ?_; (with_reducible refine (spec_EvalLin.calls k2 t480 _ _ t481 _ _ x9_2 t502 t503 _ ?side1 ?side2 ?side3 ?side4 A50.out).mono ?_); (case side1 => exact mc ((Kd.R_reads' HO_486001.out).2.2)); (case side2 => exact (Kd.R_reads' HO_486001.out).2.1); (case side3 => exact mc ((Kd.R_reads' HO_9.out).2.2)); (case side4 => exact (Kd.R_reads' HO_9.out).2.1); rintro e w58 ⟨rfl, hb⟩; refine ⟨_, rfl, ?_⟩; replace HO_9 := rb HO_9 hb; replace HO_480001 := bN HO_480001 hb; replace HO_486001 := rb HO_486001 hb; replace HO_492001 := rb HO_492001 hb; replace BK479 := bb BK479 hb; replace BK485 := bb BK485 hb; replace BK491 := bb BK491 hb; replace HB := bs HB hb; (try clear hb)))
        (try simp only [Act.put, List.setIfInBounds_toArray, List.set_cons_zero, List.set_cons_succ])
        go_cut [82] (fun v82 wc => ∃ (kq : Nat) (x82_50 : Bool), v82 = .bool x82_50 ∧ Aside0 (laws_FnCombined.j2 kq l0 x82_50 = some r) ∧ Aside0 (kq ≤ k2) ∧ Aside0 (Kd.N k36 36 wc w.heap.size (fun k_ => some k_ ≠ ((.slice Ao17 t481.length co17) : Value).ownBlock ∧ some k_ ≠ ((.slice Ao24 t487.length co24) : Value).ownBlock ∧ k_ ≠ gb479 ∧ k_ ≠ gb485 ∧ k_ ≠ gb491) (.slice Ao11 t473.length co11) t473) ∧ Aside0 (Kd.R (Kd.int .i64) 3 wc w.heap.size (fun k_ => some k_ ≠ ((.slice Ao24 t487.length co24) : Value).ownBlock) (.slice Ao17 t481.length co17) t481) ∧ Aside0 (Kd.R (Kd.int .i64) 3 wc w.heap.size (fun k_ => some k_ ≠ ((.slice Ao17 t481.length co17) : Value).ownBlock) (.slice Ao24 t487.length co24) t487) ∧ Aside0 (wc.heap[gb479]? = some (.cells #[.int .i64 t472, (.slice Ao11 t473.length co11)] 32 (0, 0))) ∧ Aside0 (wc.heap[gb485]? = some (.cells #[.int .i64 t480, (.slice Ao17 t481.length co17)] 36 (0, 0))) ∧ Aside0 (wc.heap[gb491]? = some (.cells #[.int .i64 t486, (.slice Ao24 t487.length co24)] 36 (0, 0))) ∧ Aside0 (Below w.heap.size w wc))
        case first =>
         have H := HC51.out
         clear HC51
         by_cases c59 : t484 = true
         ·subst c59
          have H1 : ((spec_Satisfies.f k2 t472 t473 x9_2).bind fun t504 => (if t504 = true then (laws_FnCombined.j2 k2 l0 (decide (t502 < 0))) else (laws_FnCombined.j2 k2 l0 false))) = some r := by rw [if_pos rfl] at H; exact H
          clear H
          have H := H1
          clear H1
          replace H := Option.bind_eq_some_iff.mp H
          obtain ⟨t504, A600, H⟩ := H
          replace H : (if t504 = true then (laws_FnCombined.j2 k2 l0 (decide (t502 < 0))) else (laws_FnCombined.j2 k2 l0 false)) = some r := H
          have A60 := Aside0.mk A600
          clear A600
          by_cases c61 : t504 = true
          ·subst c61
           have H1 : (laws_FnCombined.j2 k2 l0 (decide (t502 < 0))) = some r := by rw [if_pos rfl] at H; exact H
           clear H
           have H := H1
           clear H1
           have H' := Aside0.mk H
           clear H
           have hnb62 := NB479_485.out
           have hnc62 := NB485_479.out
           have hnb63 := NB479_491.out
           have hnc63 := NB491_479.out
           obtain ⟨hcz64_0, hcz64_1⟩ := c2 BK479
           have hfz64_0 := blk_frozen BK479.out 0
           have hfz64_1 := blk_frozen BK479.out 1
           go_wp2_with (first | (go_at_call 39; (with_reducible refine (spec_Satisfies.calls k2 t472 _ _ t473 _ _ x9_2 true _ ?side1 ?side2 ?side3 ?side4 A60.out).mono ?_); (case side1 => exact mc ((Kd.N_reads' HO_480001.out).2.2)); (case side2 => exact (Kd.N_reads' HO_480001.out).2.1); (case side3 => exact mc ((Kd.R_reads' HO_9.out).2.2)); (case side4 => exact (Kd.R_reads' HO_9.out).2.1); rintro e w65 ⟨rfl, hb⟩; replace HO_9 := rb HO_9 hb; replace HO_480001 := bN HO_480001 hb; replace HO_486001 := rb HO_486001 hb; replace HO_492001 := rb HO_492001 hb; replace BK479 := bb BK479 hb; replace BK485 := bb BK485 hb; replace BK491 := bb BK491 hb; replace HB := bs HB hb; (try clear hb)))
           go_meet
           case rel => exact ⟨_, (decide (t502 < 0)), (by first | rfl | (simp; done) | (simp [*]; done)), H', ⟨by have := HJ6.out; have := HK2.out; first | omega | exact Nat.le_refl _⟩, ⟨by (with_reducible repeat (first | apply Kd.N_alloc | apply Kd.N_drewN | apply Kd.N_drew)); exact Kd.N_mono HO_480001.out (fun _ hk => ⟨hk.2.1, ⟨hk.2.2.1, ⟨hk.2.2.2.1, ⟨hk.2.2.2.2.1, hk.2.2.2.2.2⟩⟩⟩⟩)⟩, ⟨by (with_reducible repeat (first | apply Kd.R_alloc | apply Kd.R_drewN | apply Kd.R_drew)); exact Kd.R_mono HO_486001.out (fun _ hk => hk.2)⟩, ⟨by (with_reducible repeat (first | apply Kd.R_alloc | apply Kd.R_drewN | apply Kd.R_drew)); exact Kd.R_mono HO_492001.out (fun _ hk => hk.2)⟩, ⟨mb BK479⟩, ⟨mb BK485⟩, ⟨mb BK491⟩, ⟨ms HB⟩⟩
          ·replace c61 := Bool.eq_false_iff.mpr c61
           subst c61
           have H1 : (laws_FnCombined.j2 k2 l0 false) = some r := by rw [if_neg (show ¬ (false = true) by decide)] at H; exact H
           clear H
           have H := H1
           clear H1
           have H' := Aside0.mk H
           clear H
           have hnb66 := NB479_485.out
           have hnc66 := NB485_479.out
           have hnb67 := NB479_491.out
           have hnc67 := NB491_479.out
           obtain ⟨hcz68_0, hcz68_1⟩ := c2 BK479
           have hfz68_0 := blk_frozen BK479.out 0
           have hfz68_1 := blk_frozen BK479.out 1
           go_wp2_with (first | (go_at_call 39; (with_reducible refine (spec_Satisfies.calls k2 t472 _ _ t473 _ _ x9_2 false _ ?side1 ?side2 ?side3 ?side4 A60.out).mono ?_); (case side1 => exact mc ((Kd.N_reads' HO_480001.out).2.2)); (case side2 => exact (Kd.N_reads' HO_480001.out).2.1); (case side3 => exact mc ((Kd.R_reads' HO_9.out).2.2)); (case side4 => exact (Kd.R_reads' HO_9.out).2.1); rintro e w69 ⟨rfl, hb⟩; replace HO_9 := rb HO_9 hb; replace HO_480001 := bN HO_480001 hb; replace HO_486001 := rb HO_486001 hb; replace HO_492001 := rb HO_492001 hb; replace BK479 := bb BK479 hb; replace BK485 := bb BK485 hb; replace BK491 := bb BK491 hb; replace HB := bs HB hb; (try clear hb)))
           go_meet
           case rel => exact ⟨_, (false), (by first | rfl | (simp; done) | (simp [*]; done)), H', ⟨by have := HJ6.out; have := HK2.out; first | omega | exact Nat.le_refl _⟩, ⟨by (with_reducible repeat (first | apply Kd.N_alloc | apply Kd.N_drewN | apply Kd.N_drew)); exact Kd.N_mono HO_480001.out (fun _ hk => ⟨hk.2.1, ⟨hk.2.2.1, ⟨hk.2.2.2.1, ⟨hk.2.2.2.2.1, hk.2.2.2.2.2⟩⟩⟩⟩)⟩, ⟨by (with_reducible repeat (first | apply Kd.R_alloc | apply Kd.R_drewN | apply Kd.R_drew)); exact Kd.R_mono HO_486001.out (fun _ hk => hk.2)⟩, ⟨by (with_reducible repeat (first | apply Kd.R_alloc | apply Kd.R_drewN | apply Kd.R_drew)); exact Kd.R_mono HO_492001.out (fun _ hk => hk.2)⟩, ⟨mb BK479⟩, ⟨mb BK485⟩, ⟨mb BK491⟩, ⟨ms HB⟩⟩
         ·replace c59 := Bool.eq_false_iff.mpr c59
          subst c59
          have H1 : (laws_FnCombined.j2 k2 l0 false) = some r := by rw [if_neg (show ¬ (false = true) by decide)] at H; exact H
          clear H
          have H := H1
          clear H1
          have H' := Aside0.mk H
          clear H
          go_wp2
          go_meet
          case rel => exact ⟨_, (false), (by first | rfl | (simp; done) | (simp [*]; done)), H', ⟨by have := HJ6.out; have := HK2.out; first | omega | exact Nat.le_refl _⟩, ⟨by (with_reducible repeat (first | apply Kd.N_alloc | apply Kd.N_drewN | apply Kd.N_drew)); exact Kd.N_mono HO_480001.out (fun _ hk => ⟨hk.2.1, ⟨hk.2.2.1, ⟨hk.2.2.2.1, ⟨hk.2.2.2.2.1, hk.2.2.2.2.2⟩⟩⟩⟩)⟩, ⟨by (with_reducible repeat (first | apply Kd.R_alloc | apply Kd.R_drewN | apply Kd.R_drew)); exact Kd.R_mono HO_486001.out (fun _ hk => hk.2)⟩, ⟨by (with_reducible repeat (first | apply Kd.R_alloc | apply Kd.R_drewN | apply Kd.R_drew)); exact Kd.R_mono HO_492001.out (fun _ hk => hk.2)⟩, ⟨mb BK479⟩, ⟨mb BK485⟩, ⟨mb BK491⟩, ⟨ms HB⟩⟩
        case rest =>
         clear HC51
         try clear c2
         try clear p2
         try clear c3
         try clear c4
         try clear c5
         try clear c6
         try clear p6
         try clear c25
         try clear c25b0
         try clear c25b1
         try clear c25b2
         try clear c29
         try clear c36
         try clear c37
         try clear c40
         try clear c41
         try clear c42
         try clear c43
         try clear c43b0
         try clear c45
         try clear c46
         try clear c47
         try clear c52
         try clear c53
         try clear c55
         try clear c59
         try clear c61
         try clear c62
         try clear c63
         try clear p64
         try clear c66
         try clear c67
         try clear hcz48_0
         try clear hcz48_1
         try clear hcz54_0
         try clear hcz54_1
         try clear hcz56_0
         try clear hcz56_1
         try clear hcz64_0
         try clear hcz64_1
         try clear hcz68_0
         try clear hcz68_1
         try clear hfz48_0
         try clear hfz48_1
         try clear hfz54_0
         try clear hfz54_1
         try clear hfz56_0
         try clear hfz56_1
         try clear hfz64_0
         try clear hfz64_1
         try clear hfz68_0
         try clear hfz68_1
         try clear p2
         obtain ⟨kq, x82_50, rfl, HA, HJ50, HO_480001, HO_486001, HO_492001, BK479, BK485, BK491, HB⟩ := hcut
         cases kq with
         | zero => exact absurd HA.out (by simp [laws_FnCombined.j2])
         | succ kj50 =>
          have H := HA.out
          clear HA
          simp only [laws_FnCombined.j2] at H
          by_cases c70 : x82_50 = true
          ·subst c70
           have H1 : (some false) = some r := by rw [if_pos rfl] at H; exact H
           clear H
           have H := H1
           clear H1
           obtain rfl := Option.some.inj H
           go_wp2
           go_ret
           exact ⟨by first | rfl | (simp [errW_none, errW_some] <;> rfl) | (simp [*, errW_none, errW_some] <;> rfl), ms HB⟩
          ·replace c70 := Bool.eq_false_iff.mpr c70
           subst c70
           have H1 : ((spec_DrawCheckEmpty.f kj50 l0).bind fun bt505 => ((impl_CheckEmpty.f kj50 bt505.1 bt505.2.1 bt505.2.2).bind fun t513 => ((spec_CheckEmpty.f kj50 bt505.1 bt505.2.1 bt505.2.2).bind fun t514 => (if (t513 != t514) = true then (some false) else (laws_FnCombined.l1 kj50 t513 (-6) bt505.1 bt505.2.1))))) = some r := by rw [if_neg (show ¬ (false = true) by decide)] at H; exact H
           clear H
           have H := H1
           clear H1
           replace H := Option.bind_eq_some_iff.mp H
           obtain ⟨⟨t505, t506, t509⟩, A710, H⟩ := H
           replace H : ((impl_CheckEmpty.f kj50 t505 t506 t509).bind fun t513 => ((spec_CheckEmpty.f kj50 t505 t506 t509).bind fun t514 => (if (t513 != t514) = true then (some false) else (laws_FnCombined.l1 kj50 t513 (-6) t505 t506)))) = some r := H
           have A71 := Aside0.mk A710
           clear A710
           replace H := Option.bind_eq_some_iff.mp H
           obtain ⟨t513, A720, H⟩ := H
           replace H : ((spec_CheckEmpty.f kj50 t505 t506 t509).bind fun t514 => (if (t513 != t514) = true then (some false) else (laws_FnCombined.l1 kj50 t513 (-6) t505 t506))) = some r := H
           have A72 := Aside0.mk A720
           clear A720
           replace H := Option.bind_eq_some_iff.mp H
           obtain ⟨t514, A730, H⟩ := H
           replace H : (if (t513 != t514) = true then (some false) else (laws_FnCombined.l1 kj50 t513 (-6) t505 t506)) = some r := H
           have A73 := Aside0.mk A730
           clear A730
           by_cases c74 : (t513 != t514) = true
           ·rw [if_pos c74] at H
            have c74b0 : (t513 != t514) = true := c74
            (try (have c74b1 : decide (t513 = t514) = false := by simpa using c74))
            (try (have c74b2 : (t513 == t514) = false := by simpa using c74))
            (try (have c74b3 : ¬ (t513 = t514) := by simpa using c74))
            clear c74
            obtain rfl := Option.some.inj H
            go_wp2_with (first | ((with_reducible refine gate_callee (f := 44) rfl ?_); refine gl (some 85) rfl rfl Try.func44 (by kernel_rfl) rfl #[.slice A0 l0.length c0] rfl ?_; (with_reducible refine (spec_DrawCheckEmpty.calls kj50 _ _ l0 t505 t506 t509 _ ?side1 ?side2 A71.out).mono ?_); (case side1 => exact mc ((Kd.C_below HR0.out HB.out))); (case side2 => exact HC0.out); rintro e w75 ⟨v507, v510, rfl, ho0, ho1, hb⟩; refine ⟨_, rfl, ?_⟩; have HO508 := Aside0.mk (Kd.N_lower (Kd.N_mono (ok' := fun k_ => some k_ ≠ (v510 : Value).ownBlock ∧ some k_ ≠ (.slice Ao11 t473.length co11 : Value).ownBlock ∧ some k_ ≠ (.slice Ao17 t481.length co17 : Value).ownBlock ∧ some k_ ≠ (.slice Ao24 t487.length co24 : Value).ownBlock ∧ k_ ≠ gb479 ∧ k_ ≠ gb485 ∧ k_ ≠ gb491) ho0 (fun k_ hk_ => ⟨hk_.2, (Kd.fresh' (Kd.N_lt (mN HO_480001)) k_ hk_.1), (Kd.fresh' (Kd.R_lt (mr HO_486001)) k_ hk_.1), (Kd.fresh' (Kd.R_lt (mr HO_492001)) k_ hk_.1), (Kd.freshB (g := gb479) (o := .cells #[.int .i64 t472, .slice Ao11 t473.length co11] 32 (0, 0)) (mb BK479) k_ hk_.1), (Kd.freshB (g := gb485) (o := .cells #[.int .i64 t480, .slice Ao17 t481.length co17] 36 (0, 0)) (mb BK485) k_ hk_.1), (Kd.freshB (g := gb491) (o := .cells #[.int .i64 t486, .slice Ao24 t487.length co24] 36 (0, 0)) (mb BK491) k_ hk_.1)⟩)) (below_size (ms HB))); replace HO_480001 := Aside0.mk (Kd.N_mono (Kd.N_told (Kd.N_told (Kd.N_old (mN HO_480001) hb) (Kd.N_base ho0)) (Kd.R_base ho1)) (fun _ h_ => h_.1)); have HO511 := Aside0.mk (Kd.R_lower (Kd.R_new' (Kd.R_new' (Kd.R_mono (ok' := fun k_ => True) ho1 (fun _ hk_ => trivial)) (Kd.R_lt (mr HO_486001))) (Kd.R_lt (mr HO_492001))) (below_size (ms HB))); replace HO_486001 := rl HO_486001 ho1 hb; replace HO_492001 := rl HO_492001 ho1 hb; replace BK479 := bb BK479 hb; replace BK485 := bb BK485 hb; replace BK491 := bb BK491 hb; replace HB := bs HB hb; (try clear hb); (try clear ho0); (try clear ho1)) | ((with_reducible refine gate_dst (N := 13) rfl ?_); refine box_event ?hg (N := 13) ?hd (cs := #[.int .i64 0, .slice none 0 0]) (t := 32) ?hr ?_; (case hd => rfl); (case hg => rfl); (case hr => first | (go_simp; done) | (go_simp; rfl)); intro gb512 hg w76 hbox hb; replace HO_480001 := Aside0.mk (Kd.N_below (Kd.N_elderB (mN HO_480001) gb512 (Nat.le_of_eq hg.symm)) hb); replace HO_486001 := rb HO_486001 hb; replace HO_492001 := rb HO_492001 hb; replace HO508 := Aside0.mk (Kd.N_below (Kd.N_elderB (mN HO508) gb512 (Nat.le_of_eq hg.symm)) hb); replace HO511 := rb HO511 hb; have BK512 := Aside0.mk (hbox); have GW512 := gw hg HB; have GE512 := gw hg HB; replace HB := bs HB hb; have NB479_512 := nl hg BK479; have NB512_479 := ng hg BK479; replace BK479 := bb BK479 hb; have NB485_512 := nl hg BK485; have NB512_485 := ng hg BK485; replace BK485 := bb BK485 hb; have NB491_512 := nl hg BK491; have NB512_491 := ng hg BK491; replace BK491 := bb BK491 hb; clear hb hbox hg; have hnb77 := NB512_479.out; have hnc77 := NB479_512.out; have hnb78 := NB512_485.out; have hnc78 := NB485_512.out; have hnb79 := NB512_491.out; have hnc79 := NB491_512.out; obtain ⟨hcz80_0, hcz80_1⟩ := c2 BK512; have hfz80_0 := blk_frozen BK512.out 0; have hfz80_1 := blk_frozen BK512.out 1; obtain ⟨Ao81, co81, eo81⟩ := Kd.N_slice HO508.out; subst eo81; obtain ⟨Ao82, co82, eo82⟩ := Kd.R_slice HO511.out; subst eo82) | ((with_reducible refine gate_callee (f := 24) rfl ?_); refine gl (some 90) rfl rfl Try.func24 (by kernel_rfl) rfl #[.agg #[.int .i64 t505, .slice Ao81 t506.length co81], .slice Ao82 t509.length co82] rfl ?_; (with_reducible refine (impl_CheckEmpty.calls kj50 t505 _ _ t506 _ _ t509 t513 _ ?side1 ?side2 ?side3 ?side4 A72.out).mono ?_); (case side1 => refine (Kd.N_reads' (e := 36) (base := w.heap.size) (ok := fun k_ => ((some k_ ≠ (.slice Ao82 t509.length co82 : Value).ownBlock ∧ (some k_ ≠ (.slice Ao11 t473.length co11 : Value).ownBlock ∧ (some k_ ≠ (.slice Ao17 t481.length co17 : Value).ownBlock ∧ (some k_ ≠ (.slice Ao24 t487.length co24 : Value).ownBlock ∧ (k_ ≠ gb479 ∧ (k_ ≠ gb485 ∧ k_ ≠ gb491)))))) ∧ k_ ≠ gb512)) (n := t506.length) (c := co81) ?_).2.2; exact (by (with_reducible repeat (first | apply Kd.N_alloc | apply Kd.N_drewN | apply Kd.N_drew)); exact (Kd.N_mono (Kd.N_far (p := ⟨gb512, 1, none⟩) (Kd.N_far (p := ⟨gb512, 0, none⟩) (Kd.N_mono HO508.out (fun k_ hk => (⟨hk, hk.2⟩ : _ ∧ k_ ≠ gb512))) (fun _ hk => hk.2) (.int .i64 t505)) (fun _ hk => hk.2) (.slice Ao81 t506.length co81)) (fun _ h_ => h_.1)))); (case side2 => exact (Kd.N_reads' HO508.out).2.1); (case side3 => refine (Kd.R_reads' (e := 3) (base := w.heap.size) (ok := fun k_ => ((True ∧ some k_ ≠ (.slice Ao17 t481.length co17 : Value).ownBlock) ∧ some k_ ≠ (.slice Ao24 t487.length co24 : Value).ownBlock)) (n := t509.length) (c := co82) ?_).2.2; exact (by (with_reducible repeat (first | apply Kd.R_alloc | apply Kd.R_drewN | apply Kd.R_drew)); exact (Kd.R_mono (Kd.R_far (p := ⟨gb512, 1, none⟩) (Kd.R_far (p := ⟨gb512, 0, none⟩) (Kd.R_types HO511.out BK512.out (by decide)) (fun _ hk => hk.2) (.int .i64 t505)) (fun _ hk => hk.2) (.slice Ao81 t506.length co81)) (fun _ h_ => h_.1)))); (case side4 => exact (Kd.R_reads' HO511.out).2.1); rintro e w83 ⟨rfl, hb⟩; refine ⟨_, rfl, ?_⟩; have n0_ := Aside0.mk (Kd.N_below (by (with_reducible repeat (first | apply Kd.N_alloc | apply Kd.N_drewN | apply Kd.N_drew)); exact (Kd.N_mono (Kd.N_far (p := ⟨gb512, 1, none⟩) (Kd.N_far (p := ⟨gb512, 0, none⟩) (Kd.N_mono HO_480001.out (fun k_ hk => (⟨hk, hk.2⟩ : _ ∧ k_ ≠ gb512))) (fun _ hk => hk.2) (.int .i64 t505)) (fun _ hk => hk.2) (.slice Ao81 t506.length co81)) (fun _ h_ => h_.1))) hb); have n1_ := Aside0.mk (Kd.R_below (by (with_reducible repeat (first | apply Kd.R_alloc | apply Kd.R_drewN | apply Kd.R_drew)); exact (Kd.R_mono (Kd.R_far (p := ⟨gb512, 1, none⟩) (Kd.R_far (p := ⟨gb512, 0, none⟩) (Kd.R_types HO_486001.out BK512.out (by decide)) (fun _ hk => hk.2) (.int .i64 t505)) (fun _ hk => hk.2) (.slice Ao81 t506.length co81)) (fun _ h_ => h_.1))) hb); have n2_ := Aside0.mk (Kd.R_below (by (with_reducible repeat (first | apply Kd.R_alloc | apply Kd.R_drewN | apply Kd.R_drew)); exact (Kd.R_mono (Kd.R_far (p := ⟨gb512, 1, none⟩) (Kd.R_far (p := ⟨gb512, 0, none⟩) (Kd.R_types HO_492001.out BK512.out (by decide)) (fun _ hk => hk.2) (.int .i64 t505)) (fun _ hk => hk.2) (.slice Ao81 t506.length co81)) (fun _ h_ => h_.1))) hb); have n3_ := Aside0.mk (Kd.N_below (by (with_reducible repeat (first | apply Kd.N_alloc | apply Kd.N_drewN | apply Kd.N_drew)); exact (Kd.N_mono (Kd.N_far (p := ⟨gb512, 1, none⟩) (Kd.N_far (p := ⟨gb512, 0, none⟩) (Kd.N_mono HO508.out (fun k_ hk => (⟨hk, hk.2⟩ : _ ∧ k_ ≠ gb512))) (fun _ hk => hk.2) (.int .i64 t505)) (fun _ hk => hk.2) (.slice Ao81 t506.length co81)) (fun _ h_ => h_.1))) hb); have n4_ := Aside0.mk (Kd.R_below (by (with_reducible repeat (first | apply Kd.R_alloc | apply Kd.R_drewN | apply Kd.R_drew)); exact (Kd.R_mono (Kd.R_far (p := ⟨gb512, 1, none⟩) (Kd.R_far (p := ⟨gb512, 0, none⟩) (Kd.R_types HO511.out BK512.out (by decide)) (fun _ hk => hk.2) (.int .i64 t505)) (fun _ hk => hk.2) (.slice Ao81 t506.length co81)) (fun _ h_ => h_.1))) hb); have n5_ := bf BK479 hb; have n6_ := bf BK485 hb; have n7_ := bf BK491 hb; have n8_ := Aside0.mk (blk_below (g := gb512) (o := .cells #[.int .i64 t505, .slice Ao81 t506.length co81] 32 (0, 0)) (by (with_reducible repeat (first | refine blk_drewN ?_ _ | refine blk_drew ?_ | refine blk_alloc ?_ _)); refine blk_put (cs := #[.int .i64 t505, .slice none 0 0]) ?_ 1 _ rfl; (with_reducible repeat (first | refine blk_drewN ?_ _ | refine blk_drew ?_ | refine blk_alloc ?_ _)); refine blk_put (cs := #[.int .i64 0, .slice none 0 0]) ?_ 0 _ rfl; (with_reducible repeat (first | refine blk_drewN ?_ _ | refine blk_drew ?_ | refine blk_alloc ?_ _)); exact BK512.out) hb); have n9_ := bs HB hb; clear HO_480001 HO_486001 HO_492001 HO508 HO511 BK479 BK485 BK491 BK512 HB; have HO_480001 := n0_; have HO_486001 := n1_; have HO_492001 := n2_; have HO508 := n3_; have HO511 := n4_; have BK479 := n5_; have BK485 := n6_; have BK491 := n7_; have BK512 := n8_; have HB := n9_; clear n0_ n1_ n2_ n3_ n4_ n5_ n6_ n7_ n8_ n9_; (try clear hb); obtain ⟨hcz84_0, hcz84_1⟩ := c2 BK512; have hfz84_0 := blk_frozen BK512.out 0; have hfz84_1 := blk_frozen BK512.out 1) | ((with_reducible refine gate_callee (f := 22) rfl ?_); refine gl (some 94) rfl rfl Try.func22 (by kernel_rfl) rfl #[.agg #[.int .i64 t505, .slice Ao81 t506.length co81], .slice Ao82 t509.length co82] rfl ?_; (with_reducible refine (spec_CheckEmpty.calls kj50 t505 _ _ t506 _ _ t509 t514 _ ?side1 ?side2 ?side3 ?side4 A73.out).mono ?_); (case side1 => exact mc ((Kd.N_reads' HO508.out).2.2)); (case side2 => exact (Kd.N_reads' HO508.out).2.1); (case side3 => exact mc ((Kd.R_reads' HO511.out).2.2)); (case side4 => exact (Kd.R_reads' HO511.out).2.1); rintro e w85 ⟨rfl, hb⟩; refine ⟨_, rfl, ?_⟩; replace HO_480001 := bN HO_480001 hb; replace HO_486001 := rb HO_486001 hb; replace HO_492001 := rb HO_492001 hb; replace HO508 := bN HO508 hb; replace HO511 := rb HO511 hb; replace BK479 := bb BK479 hb; replace BK485 := bb BK485 hb; replace BK491 := bb BK491 hb; replace BK512 := bb BK512 hb; replace HB := bs HB hb; (try clear hb)))
            go_ret
            exact ⟨by first | rfl | (simp [errW_none, errW_some] <;> rfl) | (simp [*, errW_none, errW_some] <;> rfl), ms HB⟩
           ·rw [if_neg c74] at H
            have c74b0 : (t513 != t514) = false := by simpa using c74
            (try (have c74b1 : decide (t513 = t514) = true := by simpa using c74))
            (try (have c74b2 : (t513 == t514) = true := by simpa using c74))
            clear c74
            have H' := Aside0.mk H
            clear H
            go_wp2_with (first | ((with_reducible refine gate_callee (f := 44) rfl ?_); refine gl (some 85) rfl rfl Try.func44 (by kernel_rfl) rfl #[.slice A0 l0.length c0] rfl ?_; (with_reducible refine (spec_DrawCheckEmpty.calls kj50 _ _ l0 t505 t506 t509 _ ?side1 ?side2 A71.out).mono ?_); (case side1 => exact mc ((Kd.C_below HR0.out HB.out))); (case side2 => exact HC0.out); rintro e w86 ⟨v507, v510, rfl, ho0, ho1, hb⟩; refine ⟨_, rfl, ?_⟩; have HO508 := Aside0.mk (Kd.N_lower (Kd.N_mono (ok' := fun k_ => some k_ ≠ (v510 : Value).ownBlock ∧ some k_ ≠ (.slice Ao11 t473.length co11 : Value).ownBlock ∧ some k_ ≠ (.slice Ao17 t481.length co17 : Value).ownBlock ∧ some k_ ≠ (.slice Ao24 t487.length co24 : Value).ownBlock ∧ k_ ≠ gb479 ∧ k_ ≠ gb485 ∧ k_ ≠ gb491) ho0 (fun k_ hk_ => ⟨hk_.2, (Kd.fresh' (Kd.N_lt (mN HO_480001)) k_ hk_.1), (Kd.fresh' (Kd.R_lt (mr HO_486001)) k_ hk_.1), (Kd.fresh' (Kd.R_lt (mr HO_492001)) k_ hk_.1), (Kd.freshB (g := gb479) (o := .cells #[.int .i64 t472, .slice Ao11 t473.length co11] 32 (0, 0)) (mb BK479) k_ hk_.1), (Kd.freshB (g := gb485) (o := .cells #[.int .i64 t480, .slice Ao17 t481.length co17] 36 (0, 0)) (mb BK485) k_ hk_.1), (Kd.freshB (g := gb491) (o := .cells #[.int .i64 t486, .slice Ao24 t487.length co24] 36 (0, 0)) (mb BK491) k_ hk_.1)⟩)) (below_size (ms HB))); replace HO_480001 := Aside0.mk (Kd.N_mono (Kd.N_told (Kd.N_told (Kd.N_old (mN HO_480001) hb) (Kd.N_base ho0)) (Kd.R_base ho1)) (fun _ h_ => h_.1)); have HO511 := Aside0.mk (Kd.R_lower (Kd.R_new' (Kd.R_new' (Kd.R_mono (ok' := fun k_ => True) ho1 (fun _ hk_ => trivial)) (Kd.R_lt (mr HO_486001))) (Kd.R_lt (mr HO_492001))) (below_size (ms HB))); replace HO_486001 := rl HO_486001 ho1 hb; replace HO_492001 := rl HO_492001 ho1 hb; replace BK479 := bb BK479 hb; replace BK485 := bb BK485 hb; replace BK491 := bb BK491 hb; replace HB := bs HB hb; (try clear hb); (try clear ho0); (try clear ho1)) | ((with_reducible refine gate_dst (N := 13) rfl ?_); refine box_event ?hg (N := 13) ?hd (cs := #[.int .i64 0, .slice none 0 0]) (t := 32) ?hr ?_; (case hd => rfl); (case hg => rfl); (case hr => first | (go_simp; done) | (go_simp; rfl)); intro gb512 hg w87 hbox hb; replace HO_480001 := Aside0.mk (Kd.N_below (Kd.N_elderB (mN HO_480001) gb512 (Nat.le_of_eq hg.symm)) hb); replace HO_486001 := rb HO_486001 hb; replace HO_492001 := rb HO_492001 hb; replace HO508 := Aside0.mk (Kd.N_below (Kd.N_elderB (mN HO508) gb512 (Nat.le_of_eq hg.symm)) hb); replace HO511 := rb HO511 hb; have BK512 := Aside0.mk (hbox); have GW512 := gw hg HB; have GE512 := gw hg HB; replace HB := bs HB hb; have NB479_512 := nl hg BK479; have NB512_479 := ng hg BK479; replace BK479 := bb BK479 hb; have NB485_512 := nl hg BK485; have NB512_485 := ng hg BK485; replace BK485 := bb BK485 hb; have NB491_512 := nl hg BK491; have NB512_491 := ng hg BK491; replace BK491 := bb BK491 hb; clear hb hbox hg; have hnb88 := NB512_479.out; have hnc88 := NB479_512.out; have hnb89 := NB512_485.out; have hnc89 := NB485_512.out; have hnb90 := NB512_491.out; have hnc90 := NB491_512.out; obtain ⟨hcz91_0, hcz91_1⟩ := c2 BK512; have hfz91_0 := blk_frozen BK512.out 0; have hfz91_1 := blk_frozen BK512.out 1; obtain ⟨Ao92, co92, eo92⟩ := Kd.N_slice HO508.out; subst eo92; obtain ⟨Ao93, co93, eo93⟩ := Kd.R_slice HO511.out; subst eo93) | ((with_reducible refine gate_callee (f := 24) rfl ?_); refine gl (some 90) rfl rfl Try.func24 (by kernel_rfl) rfl #[.agg #[.int .i64 t505, .slice Ao92 t506.length co92], .slice Ao93 t509.length co93] rfl ?_; (with_reducible refine (impl_CheckEmpty.calls kj50 t505 _ _ t506 _ _ t509 t513 _ ?side1 ?side2 ?side3 ?side4 A72.out).mono ?_); (case side1 => refine (Kd.N_reads' (e := 36) (base := w.heap.size) (ok := fun k_ => ((some k_ ≠ (.slice Ao93 t509.length co93 : Value).ownBlock ∧ (some k_ ≠ (.slice Ao11 t473.length co11 : Value).ownBlock ∧ (some k_ ≠ (.slice Ao17 t481.length co17 : Value).ownBlock ∧ (some k_ ≠ (.slice Ao24 t487.length co24 : Value).ownBlock ∧ (k_ ≠ gb479 ∧ (k_ ≠ gb485 ∧ k_ ≠ gb491)))))) ∧ k_ ≠ gb512)) (n := t506.length) (c := co92) ?_).2.2; exact (by (with_reducible repeat (first | apply Kd.N_alloc | apply Kd.N_drewN | apply Kd.N_drew)); exact (Kd.N_mono (Kd.N_far (p := ⟨gb512, 1, none⟩) (Kd.N_far (p := ⟨gb512, 0, none⟩) (Kd.N_mono HO508.out (fun k_ hk => (⟨hk, hk.2⟩ : _ ∧ k_ ≠ gb512))) (fun _ hk => hk.2) (.int .i64 t505)) (fun _ hk => hk.2) (.slice Ao92 t506.length co92)) (fun _ h_ => h_.1)))); (case side2 => exact (Kd.N_reads' HO508.out).2.1); (case side3 => refine (Kd.R_reads' (e := 3) (base := w.heap.size) (ok := fun k_ => ((True ∧ some k_ ≠ (.slice Ao17 t481.length co17 : Value).ownBlock) ∧ some k_ ≠ (.slice Ao24 t487.length co24 : Value).ownBlock)) (n := t509.length) (c := co93) ?_).2.2; exact (by (with_reducible repeat (first | apply Kd.R_alloc | apply Kd.R_drewN | apply Kd.R_drew)); exact (Kd.R_mono (Kd.R_far (p := ⟨gb512, 1, none⟩) (Kd.R_far (p := ⟨gb512, 0, none⟩) (Kd.R_types HO511.out BK512.out (by decide)) (fun _ hk => hk.2) (.int .i64 t505)) (fun _ hk => hk.2) (.slice Ao92 t506.length co92)) (fun _ h_ => h_.1)))); (case side4 => exact (Kd.R_reads' HO511.out).2.1); rintro e w94 ⟨rfl, hb⟩; refine ⟨_, rfl, ?_⟩; have n0_ := Aside0.mk (Kd.N_below (by (with_reducible repeat (first | apply Kd.N_alloc | apply Kd.N_drewN | apply Kd.N_drew)); exact (Kd.N_mono (Kd.N_far (p := ⟨gb512, 1, none⟩) (Kd.N_far (p := ⟨gb512, 0, none⟩) (Kd.N_mono HO_480001.out (fun k_ hk => (⟨hk, hk.2⟩ : _ ∧ k_ ≠ gb512))) (fun _ hk => hk.2) (.int .i64 t505)) (fun _ hk => hk.2) (.slice Ao92 t506.length co92)) (fun _ h_ => h_.1))) hb); have n1_ := Aside0.mk (Kd.R_below (by (with_reducible repeat (first | apply Kd.R_alloc | apply Kd.R_drewN | apply Kd.R_drew)); exact (Kd.R_mono (Kd.R_far (p := ⟨gb512, 1, none⟩) (Kd.R_far (p := ⟨gb512, 0, none⟩) (Kd.R_types HO_486001.out BK512.out (by decide)) (fun _ hk => hk.2) (.int .i64 t505)) (fun _ hk => hk.2) (.slice Ao92 t506.length co92)) (fun _ h_ => h_.1))) hb); have n2_ := Aside0.mk (Kd.R_below (by (with_reducible repeat (first | apply Kd.R_alloc | apply Kd.R_drewN | apply Kd.R_drew)); exact (Kd.R_mono (Kd.R_far (p := ⟨gb512, 1, none⟩) (Kd.R_far (p := ⟨gb512, 0, none⟩) (Kd.R_types HO_492001.out BK512.out (by decide)) (fun _ hk => hk.2) (.int .i64 t505)) (fun _ hk => hk.2) (.slice Ao92 t506.length co92)) (fun _ h_ => h_.1))) hb); have n3_ := Aside0.mk (Kd.N_below (by (with_reducible repeat (first | apply Kd.N_alloc | apply Kd.N_drewN | apply Kd.N_drew)); exact (Kd.N_mono (Kd.N_far (p := ⟨gb512, 1, none⟩) (Kd.N_far (p := ⟨gb512, 0, none⟩) (Kd.N_mono HO508.out (fun k_ hk => (⟨hk, hk.2⟩ : _ ∧ k_ ≠ gb512))) (fun _ hk => hk.2) (.int .i64 t505)) (fun _ hk => hk.2) (.slice Ao92 t506.length co92)) (fun _ h_ => h_.1))) hb); have n4_ := Aside0.mk (Kd.R_below (by (with_reducible repeat (first | apply Kd.R_alloc | apply Kd.R_drewN | apply Kd.R_drew)); exact (Kd.R_mono (Kd.R_far (p := ⟨gb512, 1, none⟩) (Kd.R_far (p := ⟨gb512, 0, none⟩) (Kd.R_types HO511.out BK512.out (by decide)) (fun _ hk => hk.2) (.int .i64 t505)) (fun _ hk => hk.2) (.slice Ao92 t506.length co92)) (fun _ h_ => h_.1))) hb); have n5_ := bf BK479 hb; have n6_ := bf BK485 hb; have n7_ := bf BK491 hb; have n8_ := Aside0.mk (blk_below (g := gb512) (o := .cells #[.int .i64 t505, .slice Ao92 t506.length co92] 32 (0, 0)) (by (with_reducible repeat (first | refine blk_drewN ?_ _ | refine blk_drew ?_ | refine blk_alloc ?_ _)); refine blk_put (cs := #[.int .i64 t505, .slice none 0 0]) ?_ 1 _ rfl; (with_reducible repeat (first | refine blk_drewN ?_ _ | refine blk_drew ?_ | refine blk_alloc ?_ _)); refine blk_put (cs := #[.int .i64 0, .slice none 0 0]) ?_ 0 _ rfl; (with_reducible repeat (first | refine blk_drewN ?_ _ | refine blk_drew ?_ | refine blk_alloc ?_ _)); exact BK512.out) hb); have n9_ := bs HB hb; clear HO_480001 HO_486001 HO_492001 HO508 HO511 BK479 BK485 BK491 BK512 HB; have HO_480001 := n0_; have HO_486001 := n1_; have HO_492001 := n2_; have HO508 := n3_; have HO511 := n4_; have BK479 := n5_; have BK485 := n6_; have BK491 := n7_; have BK512 := n8_; have HB := n9_; clear n0_ n1_ n2_ n3_ n4_ n5_ n6_ n7_ n8_ n9_; (try clear hb); obtain ⟨hcz95_0, hcz95_1⟩ := c2 BK512; have hfz95_0 := blk_frozen BK512.out 0; have hfz95_1 := blk_frozen BK512.out 1) | ((with_reducible refine gate_callee (f := 22) rfl ?_); refine gl (some 94) rfl rfl Try.func22 (by kernel_rfl) rfl #[.agg #[.int .i64 t505, .slice Ao92 t506.length co92], .slice Ao93 t509.length co93] rfl ?_; (with_reducible refine (spec_CheckEmpty.calls kj50 t505 _ _ t506 _ _ t509 t514 _ ?side1 ?side2 ?side3 ?side4 A73.out).mono ?_); (case side1 => exact mc ((Kd.N_reads' HO508.out).2.2)); (case side2 => exact (Kd.N_reads' HO508.out).2.1); (case side3 => exact mc ((Kd.R_reads' HO511.out).2.2)); (case side4 => exact (Kd.R_reads' HO511.out).2.1); rintro e w96 ⟨rfl, hb⟩; refine ⟨_, rfl, ?_⟩; replace HO_480001 := bN HO_480001 hb; replace HO_486001 := rb HO_486001 hb; replace HO_492001 := rb HO_492001 hb; replace HO508 := bN HO508 hb; replace HO511 := rb HO511 hb; replace BK479 := bb BK479 hb; replace BK485 := bb BK485 hb; replace BK491 := bb BK491 hb; replace BK512 := bb BK512 hb; replace HB := bs HB hb; (try clear hb)))
            go_loopg [16] kj50 (fun kq v16 w' => ∃ (x16_4 : Int), v16 = .int .i64 x16_4 ∧ Aside0 (laws_FnCombined.l1 kq t513 x16_4 t505 t506 = some r) ∧ Aside0 (kq ≤ kj50) ∧ Aside0 (Kd.N k36 36 w' w.heap.size (fun k_ => some k_ ≠ ((.slice Ao17 t481.length co17) : Value).ownBlock ∧ some k_ ≠ ((.slice Ao24 t487.length co24) : Value).ownBlock ∧ some k_ ≠ ((.slice Ao92 t506.length co92) : Value).ownBlock ∧ k_ ≠ gb479 ∧ k_ ≠ gb485 ∧ k_ ≠ gb491 ∧ k_ ≠ gb512) (.slice Ao11 t473.length co11) t473) ∧ Aside0 (Kd.R (Kd.int .i64) 3 w' w.heap.size (fun k_ => some k_ ≠ ((.slice Ao24 t487.length co24) : Value).ownBlock) (.slice Ao17 t481.length co17) t481) ∧ Aside0 (Kd.R (Kd.int .i64) 3 w' w.heap.size (fun k_ => some k_ ≠ ((.slice Ao17 t481.length co17) : Value).ownBlock) (.slice Ao24 t487.length co24) t487) ∧ Aside0 (Kd.N k36 36 w' w.heap.size (fun k_ => some k_ ≠ ((.slice Ao11 t473.length co11) : Value).ownBlock ∧ some k_ ≠ ((.slice Ao17 t481.length co17) : Value).ownBlock ∧ some k_ ≠ ((.slice Ao24 t487.length co24) : Value).ownBlock ∧ k_ ≠ gb479 ∧ k_ ≠ gb485 ∧ k_ ≠ gb491 ∧ k_ ≠ gb512) (.slice Ao92 t506.length co92) t506) ∧ Aside0 (w'.heap[gb479]? = some (.cells #[.int .i64 t472, (.slice Ao11 t473.length co11)] 32 (0, 0))) ∧ Aside0 (w'.heap[gb485]? = some (.cells #[.int .i64 t480, (.slice Ao17 t481.length co17)] 36 (0, 0))) ∧ Aside0 (w'.heap[gb491]? = some (.cells #[.int .i64 t486, (.slice Ao24 t487.length co24)] 36 (0, 0))) ∧ Aside0 (w'.heap[gb512]? = some (.cells #[.int .i64 t505, (.slice Ao92 t506.length co92)] 32 (0, 0))) ∧ Aside0 (Below w.heap.size w w'))
            case atStart => exact ⟨((-6)), (by first | rfl | (simp; done) | (simp [*]; done)), H', ⟨Nat.le_refl _⟩, ⟨by (with_reducible repeat (first | apply Kd.N_alloc | apply Kd.N_drewN | apply Kd.N_drew)); exact Kd.N_mono HO_480001.out (fun _ hk => ⟨hk.1.1.1.1, ⟨hk.1.1.1.2.1, ⟨hk.1.1.2, ⟨hk.1.1.1.2.2.1, ⟨hk.1.1.1.2.2.2.1, ⟨hk.1.1.1.2.2.2.2, hk.2⟩⟩⟩⟩⟩⟩)⟩, ⟨by (with_reducible repeat (first | apply Kd.R_alloc | apply Kd.R_drewN | apply Kd.R_drew)); exact Kd.R_mono HO_486001.out (fun _ hk => hk.1)⟩, ⟨by (with_reducible repeat (first | apply Kd.R_alloc | apply Kd.R_drewN | apply Kd.R_drew)); exact Kd.R_mono HO_492001.out (fun _ hk => hk.1)⟩, ⟨by (with_reducible repeat (first | apply Kd.N_alloc | apply Kd.N_drewN | apply Kd.N_drew)); exact Kd.N_mono HO508.out (fun _ hk => ⟨hk.1.2.1, ⟨hk.1.2.2.1, ⟨hk.1.2.2.2.1, ⟨hk.1.2.2.2.2.1, ⟨hk.1.2.2.2.2.2.1, ⟨hk.1.2.2.2.2.2.2, hk.2⟩⟩⟩⟩⟩⟩)⟩, ⟨mb BK479⟩, ⟨mb BK485⟩, ⟨mb BK491⟩, ⟨mb BK512⟩, ⟨ms HB⟩⟩
            case round =>
             clear H'
             try clear c2
             try clear p2
             try clear c3
             try clear c4
             try clear c5
             try clear c6
             try clear p6
             try clear c7
             try clear c8
             try clear c9
             try clear c22
             try clear c24
             try clear c25
             try clear c25b0
             try clear c25b1
             try clear c25b2
             try clear c29
             try clear c36
             try clear c37
             try clear c40
             try clear c41
             try clear c42
             try clear c43
             try clear c43b0
             try clear c44
             try clear c45
             try clear c46
             try clear c47
             try clear c52
             try clear c53
             try clear c55
             try clear c59
             try clear c61
             try clear c62
             try clear c63
             try clear p64
             try clear c66
             try clear c67
             try clear c70
             try clear c74
             try clear c74b0
             try clear c74b1
             try clear c74b2
             try clear c77
             try clear c78
             try clear c79
             try clear c88
             try clear c89
             try clear c90
             try clear hcz48_0
             try clear hcz48_1
             try clear hcz54_0
             try clear hcz54_1
             try clear hcz56_0
             try clear hcz56_1
             try clear hcz64_0
             try clear hcz64_1
             try clear hcz68_0
             try clear hcz68_1
             try clear hcz80_0
             try clear hcz80_1
             try clear hcz84_0
             try clear hcz84_1
             try clear hcz91_0
             try clear hcz91_1
             try clear hcz95_0
             try clear hcz95_1
             try clear hfz48_0
             try clear hfz48_1
             try clear hfz54_0
             try clear hfz54_1
             try clear hfz56_0
             try clear hfz56_1
             try clear hfz64_0
             try clear hfz64_1
             try clear hfz68_0
             try clear hfz68_1
             try clear hfz80_0
             try clear hfz80_1
             try clear hfz84_0
             try clear hfz84_1
             try clear hfz91_0
             try clear hfz91_1
             try clear hfz95_0
             try clear hfz95_1
             try clear p2
             try clear p6
             try clear p64
             obtain ⟨x16_4, rfl, HA, HK4, HO_480001, HO_486001, HO_492001, HO_513001, BK479, BK485, BK491, BK512, HB⟩ := hrel
             cases gk with
             | zero => exact absurd HA.out (by simp [laws_FnCombined.l1])
             | succ k4 =>
              have H := HA.out
              clear HA
              simp only [laws_FnCombined.l1] at H
              have HC97 := Aside0.mk H
              clear H
              go_upto_region 21 with (fail)
              go_cut [100] (fun v100 wc => ∃ (kq : Nat) (x100_96 : Bool), v100 = .bool x100_96 ∧ Aside0 (laws_FnCombined.j4 kq t513 x16_4 x100_96 t505 t506 = some r) ∧ Aside0 (kq ≤ k4) ∧ Aside0 (Kd.N k36 36 wc w.heap.size (fun k_ => some k_ ≠ ((.slice Ao17 t481.length co17) : Value).ownBlock ∧ some k_ ≠ ((.slice Ao24 t487.length co24) : Value).ownBlock ∧ some k_ ≠ ((.slice Ao92 t506.length co92) : Value).ownBlock ∧ k_ ≠ gb479 ∧ k_ ≠ gb485 ∧ k_ ≠ gb491 ∧ k_ ≠ gb512) (.slice Ao11 t473.length co11) t473) ∧ Aside0 (Kd.R (Kd.int .i64) 3 wc w.heap.size (fun k_ => some k_ ≠ ((.slice Ao24 t487.length co24) : Value).ownBlock) (.slice Ao17 t481.length co17) t481) ∧ Aside0 (Kd.R (Kd.int .i64) 3 wc w.heap.size (fun k_ => some k_ ≠ ((.slice Ao17 t481.length co17) : Value).ownBlock) (.slice Ao24 t487.length co24) t487) ∧ Aside0 (Kd.N k36 36 wc w.heap.size (fun k_ => some k_ ≠ ((.slice Ao11 t473.length co11) : Value).ownBlock ∧ some k_ ≠ ((.slice Ao17 t481.length co17) : Value).ownBlock ∧ some k_ ≠ ((.slice Ao24 t487.length co24) : Value).ownBlock ∧ k_ ≠ gb479 ∧ k_ ≠ gb485 ∧ k_ ≠ gb491 ∧ k_ ≠ gb512) (.slice Ao92 t506.length co92) t506) ∧ Aside0 (wc.heap[gb479]? = some (.cells #[.int .i64 t472, (.slice Ao11 t473.length co11)] 32 (0, 0))) ∧ Aside0 (wc.heap[gb485]? = some (.cells #[.int .i64 t480, (.slice Ao17 t481.length co17)] 36 (0, 0))) ∧ Aside0 (wc.heap[gb491]? = some (.cells #[.int .i64 t486, (.slice Ao24 t487.length co24)] 36 (0, 0))) ∧ Aside0 (wc.heap[gb512]? = some (.cells #[.int .i64 t505, (.slice Ao92 t506.length co92)] 32 (0, 0))) ∧ Aside0 (Below w.heap.size w wc))
              case first =>
               have H := HC97.out
               clear HC97
               by_cases c98 : x16_4 < 7
               ·rw [if_pos c98] at H
                have c98b0 : decide (x16_4 < 7) = true := decide_eq_true c98
                clear c98
                (first | rw [c98b0] | (simp only [i64_w, i32_w]; rw [c98b0]) | skip)
                have H' := Aside0.mk H
                clear H
                go_wp2
                go_meet
                case rel => exact ⟨_, (t513), (by first | rfl | (simp; done) | (simp [*]; done)), H', ⟨by have := HJ6.out; have := HK2.out; have := HJ50.out; have := HK4.out; first | omega | exact Nat.le_refl _⟩, ⟨by (with_reducible repeat (first | apply Kd.N_alloc | apply Kd.N_drewN | apply Kd.N_drew)); exact HO_480001.out⟩, ⟨by (with_reducible repeat (first | apply Kd.R_alloc | apply Kd.R_drewN | apply Kd.R_drew)); exact HO_486001.out⟩, ⟨by (with_reducible repeat (first | apply Kd.R_alloc | apply Kd.R_drewN | apply Kd.R_drew)); exact HO_492001.out⟩, ⟨by (with_reducible repeat (first | apply Kd.N_alloc | apply Kd.N_drewN | apply Kd.N_drew)); exact HO_513001.out⟩, ⟨mb BK479⟩, ⟨mb BK485⟩, ⟨mb BK491⟩, ⟨mb BK512⟩, ⟨ms HB⟩⟩
               ·rw [if_neg c98] at H
                have c98b0 : decide (x16_4 < 7) = false := decide_eq_false c98
                clear c98
                (first | rw [c98b0] | (simp only [i64_w, i32_w]; rw [c98b0]) | skip)
                have H' := Aside0.mk H
                clear H
                go_wp2
                go_meet
                case rel => exact ⟨_, (false), (by first | rfl | (simp; done) | (simp [*]; done)), H', ⟨by have := HJ6.out; have := HK2.out; have := HJ50.out; have := HK4.out; first | omega | exact Nat.le_refl _⟩, ⟨by (with_reducible repeat (first | apply Kd.N_alloc | apply Kd.N_drewN | apply Kd.N_drew)); exact HO_480001.out⟩, ⟨by (with_reducible repeat (first | apply Kd.R_alloc | apply Kd.R_drewN | apply Kd.R_drew)); exact HO_486001.out⟩, ⟨by (with_reducible repeat (first | apply Kd.R_alloc | apply Kd.R_drewN | apply Kd.R_drew)); exact HO_492001.out⟩, ⟨by (with_reducible repeat (first | apply Kd.N_alloc | apply Kd.N_drewN | apply Kd.N_drew)); exact HO_513001.out⟩, ⟨mb BK479⟩, ⟨mb BK485⟩, ⟨mb BK491⟩, ⟨mb BK512⟩, ⟨ms HB⟩⟩
              case rest =>
               clear HC97
               try clear c2
               try clear p2
               try clear c3
               try clear c4
               try clear c5
               try clear c6
               try clear p6
               try clear c7
               try clear c8
               try clear c9
               try clear c22
               try clear c24
               try clear c25
               try clear c25b0
               try clear c25b1
               try clear c25b2
               try clear c29
               try clear c36
               try clear c37
               try clear c40
               try clear c41
               try clear c42
               try clear c43
               try clear c43b0
               try clear c44
               try clear c45
               try clear c46
               try clear c47
               try clear c52
               try clear c53
               try clear c55
               try clear c59
               try clear c61
               try clear c62
               try clear c63
               try clear p64
               try clear c66
               try clear c67
               try clear c70
               try clear c74
               try clear c74b0
               try clear c74b1
               try clear c74b2
               try clear c77
               try clear c78
               try clear c79
               try clear c88
               try clear c89
               try clear c90
               try clear c98
               try clear c98b0
               try clear hcz48_0
               try clear hcz48_1
               try clear hcz54_0
               try clear hcz54_1
               try clear hcz56_0
               try clear hcz56_1
               try clear hcz64_0
               try clear hcz64_1
               try clear hcz68_0
               try clear hcz68_1
               try clear hcz80_0
               try clear hcz80_1
               try clear hcz84_0
               try clear hcz84_1
               try clear hcz91_0
               try clear hcz91_1
               try clear hcz95_0
               try clear hcz95_1
               try clear hfz48_0
               try clear hfz48_1
               try clear hfz54_0
               try clear hfz54_1
               try clear hfz56_0
               try clear hfz56_1
               try clear hfz64_0
               try clear hfz64_1
               try clear hfz68_0
               try clear hfz68_1
               try clear hfz80_0
               try clear hfz80_1
               try clear hfz84_0
               try clear hfz84_1
               try clear hfz91_0
               try clear hfz91_1
               try clear hfz95_0
               try clear hfz95_1
               try clear p2
               try clear p6
               try clear p64
               obtain ⟨kq, x100_96, rfl, HA, HJ96, HO_480001, HO_486001, HO_492001, HO_513001, BK479, BK485, BK491, BK512, HB⟩ := hcut
               cases kq with
               | zero => exact absurd HA.out (by simp [laws_FnCombined.j4])
               | succ kj96 =>
                have H := HA.out
                clear HA
                simp only [laws_FnCombined.j4] at H
                by_cases c99 : x100_96 = true
                ·subst c99
                 have H1 : ((spec_Satisfies.f kj96 t505 t506 (([x16_4] : List Int))).bind fun t518 => (if t518 = true then (some false) else (laws_FnCombined.l1 kj96 t513 (wrap64 (x16_4 + 1)) t505 t506))) = some r := by rw [if_pos rfl] at H; exact H
                 clear H
                 have H := H1
                 clear H1
                 obtain ⟨y515, hy515⟩ : ∃ y_ : List Int, y_ = (([x16_4] : List Int)) := ⟨_, rfl⟩
                 replace H : ((spec_Satisfies.f kj96 t505 t506 y515).bind fun t518 => (if t518 = true then (some false) else (laws_FnCombined.l1 kj96 t513 (wrap64 (x16_4 + 1)) t505 t506))) = some r := by first | (rw [hy515]; with_reducible exact H) | (have H2_ := (Option.bind_some _ _).symm.trans H; rw [hy515]; with_reducible exact H2_) | (have H2_ := (Option.bind_some _ _).symm.trans H; with_reducible exact H2_) | with_reducible exact H | (rw [hy515]; exact H) | exact H
                 have Ny515 := Aside0.mk hy515
                 clear hy515
                 replace H := Option.bind_eq_some_iff.mp H
                 obtain ⟨t518, A1000, H⟩ := H
                 replace H : (if t518 = true then (some false) else (laws_FnCombined.l1 kj96 t513 (wrap64 (x16_4 + 1)) t505 t506)) = some r := H
                 have A100 := Aside0.mk A1000
                 clear A1000
                 by_cases c101 : t518 = true
                 ·subst c101
                  have H1 : (some false) = some r := by rw [if_pos rfl] at H; exact H
                  clear H
                  have H := H1
                  clear H1
                  obtain rfl := Option.some.inj H
                  have hnb102 := NB512_479.out
                  have hnc102 := NB479_512.out
                  have hnb103 := NB512_485.out
                  have hnc103 := NB485_512.out
                  have hnb104 := NB512_491.out
                  have hnc104 := NB491_512.out
                  obtain ⟨hcz105_0, hcz105_1⟩ := c2 BK512
                  have hfz105_0 := blk_frozen BK512.out 0
                  have hfz105_1 := blk_frozen BK512.out 1
                  go_wp2_with (first | ((with_reducible refine gate_dst (N := 105) rfl ?_); refine Kd.R_lit (Kd.int .i64) _ 3 ?hg (N := 105) ?hd (xs := ([x16_4] : List Int)) (inner := [.int .i64 x16_4]) (ok := fun _ => True) (okp := fun _ => True) ?hr ?hp (fun _ hk => hk) trivial (Below.refl _ _) (Nat.le_refl _) (by simp) ?_; (case hd => rfl); (case hg => rfl); (case hr => first | (go_simp; done) | (go_simp; rfl)); (case hp => exact (Reps.one (show Kd.M (Kd.int .i64) _ _ _ x16_4 [.int .i64 x16_4] from rfl) (Reps.none _ _))); intro v516 w106 ho107 hb hg_ hnew_; clear hg_ hnew_; (first | rw [← Ny515.out] at ho107 | (simp only [Int.reduceToNat] at ho107; rw [← Ny515.out] at ho107)); replace HO_480001 := lN HO_480001 ho107 hb; replace HO_513001 := lN HO_513001 ho107 hb; have HO517 := Aside0.mk (Kd.R_lower (Kd.R_new' (Kd.R_new' ho107 (Kd.R_lt (mr HO_486001))) (Kd.R_lt (mr HO_492001))) (below_size (ms HB))); replace HO_486001 := rl HO_486001 ho107 hb; replace HO_492001 := rl HO_492001 ho107 hb; replace BK479 := bb BK479 hb; replace BK485 := bb BK485 hb; replace BK491 := bb BK491 hb; replace BK512 := bb BK512 hb; replace HB := bs HB hb; clear hb ho107; obtain ⟨Ao108, co108, eo108⟩ := Kd.R_slice HO517.out; subst eo108) | ((with_reducible refine gate_callee (f := 39) rfl ?_); refine gl (some 106) rfl rfl Try.func39 (by kernel_rfl) rfl #[.agg #[.int .i64 t505, .slice Ao92 t506.length co92], .slice Ao108 y515.length co108] rfl ?_; (with_reducible refine (spec_Satisfies.calls kj96 t505 _ _ t506 _ _ y515 true _ ?side1 ?side2 ?side3 ?side4 A100.out).mono ?_); (case side1 => exact mc ((Kd.N_reads' HO_513001.out).2.2)); (case side2 => exact (Kd.N_reads' HO_513001.out).2.1); (case side3 => exact mc ((Kd.R_reads' HO517.out).2.2)); (case side4 => exact (Kd.R_reads' HO517.out).2.1); rintro e w109 ⟨rfl, hb⟩; refine ⟨_, rfl, ?_⟩; replace HO_480001 := bN HO_480001 hb; replace HO_486001 := rb HO_486001 hb; replace HO_492001 := rb HO_492001 hb; replace HO_513001 := bN HO_513001 hb; replace HO517 := rb HO517 hb; replace BK479 := bb BK479 hb; replace BK485 := bb BK485 hb; replace BK491 := bb BK491 hb; replace BK512 := bb BK512 hb; replace HB := bs HB hb; (try clear hb)))
                  go_ret
                  exact ⟨by first | rfl | (simp [errW_none, errW_some] <;> rfl) | (simp [*, errW_none, errW_some] <;> rfl), ms HB⟩
                 ·replace c101 := Bool.eq_false_iff.mpr c101
                  subst c101
                  have H1 : (laws_FnCombined.l1 kj96 t513 (wrap64 (x16_4 + 1)) t505 t506) = some r := by rw [if_neg (show ¬ (false = true) by decide)] at H; exact H
                  clear H
                  have H := H1
                  clear H1
                  have H' := Aside0.mk H
                  clear H
                  have hnb110 := NB512_479.out
                  have hnc110 := NB479_512.out
                  have hnb111 := NB512_485.out
                  have hnc111 := NB485_512.out
                  have hnb112 := NB512_491.out
                  have hnc112 := NB491_512.out
                  obtain ⟨hcz113_0, hcz113_1⟩ := c2 BK512
                  have hfz113_0 := blk_frozen BK512.out 0
                  have hfz113_1 := blk_frozen BK512.out 1
                  go_wp2_with (first | ((with_reducible refine gate_dst (N := 105) rfl ?_); refine Kd.R_lit (Kd.int .i64) _ 3 ?hg (N := 105) ?hd (xs := ([x16_4] : List Int)) (inner := [.int .i64 x16_4]) (ok := fun _ => True) (okp := fun _ => True) ?hr ?hp (fun _ hk => hk) trivial (Below.refl _ _) (Nat.le_refl _) (by simp) ?_; (case hd => rfl); (case hg => rfl); (case hr => first | (go_simp; done) | (go_simp; rfl)); (case hp => exact (Reps.one (show Kd.M (Kd.int .i64) _ _ _ x16_4 [.int .i64 x16_4] from rfl) (Reps.none _ _))); intro v516 w114 ho115 hb hg_ hnew_; clear hg_ hnew_; (first | rw [← Ny515.out] at ho115 | (simp only [Int.reduceToNat] at ho115; rw [← Ny515.out] at ho115)); replace HO_480001 := lN HO_480001 ho115 hb; replace HO_513001 := lN HO_513001 ho115 hb; have HO517 := Aside0.mk (Kd.R_lower (Kd.R_new' (Kd.R_new' ho115 (Kd.R_lt (mr HO_486001))) (Kd.R_lt (mr HO_492001))) (below_size (ms HB))); replace HO_486001 := rl HO_486001 ho115 hb; replace HO_492001 := rl HO_492001 ho115 hb; replace BK479 := bb BK479 hb; replace BK485 := bb BK485 hb; replace BK491 := bb BK491 hb; replace BK512 := bb BK512 hb; replace HB := bs HB hb; clear hb ho115; obtain ⟨Ao116, co116, eo116⟩ := Kd.R_slice HO517.out; subst eo116) | ((with_reducible refine gate_callee (f := 39) rfl ?_); refine gl (some 106) rfl rfl Try.func39 (by kernel_rfl) rfl #[.agg #[.int .i64 t505, .slice Ao92 t506.length co92], .slice Ao116 y515.length co116] rfl ?_; (with_reducible refine (spec_Satisfies.calls kj96 t505 _ _ t506 _ _ y515 false _ ?side1 ?side2 ?side3 ?side4 A100.out).mono ?_); (case side1 => exact mc ((Kd.N_reads' HO_513001.out).2.2)); (case side2 => exact (Kd.N_reads' HO_513001.out).2.1); (case side3 => exact mc ((Kd.R_reads' HO517.out).2.2)); (case side4 => exact (Kd.R_reads' HO517.out).2.1); rintro e w117 ⟨rfl, hb⟩; refine ⟨_, rfl, ?_⟩; replace HO_480001 := bN HO_480001 hb; replace HO_486001 := rb HO_486001 hb; replace HO_492001 := rb HO_492001 hb; replace HO_513001 := bN HO_513001 hb; replace HO517 := rb HO517 hb; replace BK479 := bb BK479 hb; replace BK485 := bb BK485 hb; replace BK491 := bb BK491 hb; replace BK512 := bb BK512 hb; replace HB := bs HB hb; (try clear hb)))
                  go_roundg kj96
                  case measure => have := HJ6.out; have := HK2.out; have := HJ50.out; have := HK4.out; have := HJ96.out; omega
                  case rel => exact ⟨(wrap64 (x16_4 + 1)), (by first | rfl | (simp; done) | (simp [*]; done)), H', ⟨by have := HJ6.out; have := HK2.out; have := HJ50.out; have := HK4.out; have := HJ96.out; omega⟩, ⟨by (with_reducible repeat (first | apply Kd.N_alloc | apply Kd.N_drewN | apply Kd.N_drew)); exact Kd.N_mono HO_480001.out (fun _ hk => ⟨hk.1.1, ⟨hk.1.2.1, ⟨hk.1.2.2.1, ⟨hk.1.2.2.2.1, ⟨hk.1.2.2.2.2.1, ⟨hk.1.2.2.2.2.2.1, hk.1.2.2.2.2.2.2⟩⟩⟩⟩⟩⟩)⟩, ⟨by (with_reducible repeat (first | apply Kd.R_alloc | apply Kd.R_drewN | apply Kd.R_drew)); exact Kd.R_mono HO_486001.out (fun _ hk => hk.1)⟩, ⟨by (with_reducible repeat (first | apply Kd.R_alloc | apply Kd.R_drewN | apply Kd.R_drew)); exact Kd.R_mono HO_492001.out (fun _ hk => hk.1)⟩, ⟨by (with_reducible repeat (first | apply Kd.N_alloc | apply Kd.N_drewN | apply Kd.N_drew)); exact Kd.N_mono HO_513001.out (fun _ hk => ⟨hk.1.1, ⟨hk.1.2.1, ⟨hk.1.2.2.1, ⟨hk.1.2.2.2.1, ⟨hk.1.2.2.2.2.1, ⟨hk.1.2.2.2.2.2.1, hk.1.2.2.2.2.2.2⟩⟩⟩⟩⟩⟩)⟩, ⟨mb BK479⟩, ⟨mb BK485⟩, ⟨mb BK491⟩, ⟨mb BK512⟩, ⟨ms HB⟩⟩
                ·replace c99 := Bool.eq_false_iff.mpr c99
                 subst c99
                 have H1 : (some true) = some r := by rw [if_neg (show ¬ (false = true) by decide)] at H; exact H
                 clear H
                 have H := H1
                 clear H1
                 obtain rfl := Option.some.inj H
                 go_wp2
                 go_ret
                 exact ⟨by first | rfl | (simp [errW_none, errW_some] <;> rfl) | (simp [*, errW_none, errW_some] <;> rfl), ms HB⟩

/-- THE ONE PURE STATEMENT of laws_FnCombined: yours. -/
def laws_FnCombined.Pure : Prop := ∀ (l0 : List Int), l0.length ≤ maxLen → l0.length * 1 ≤ 140737488351232 → (∀ x ∈ l0, (Lit.int .u8 x).wf = true) → ∃ k, laws_FnCombined.f k l0 = some true
theorem laws_FnCombined.walk (P : laws_FnCombined.Pure) (a0 : Option Addr) (len0 cap0 : Nat) (z0 : List Int) (w : World) (w0 : (a0 = none ∧ len0 = 0 ∧ cap0 = 0 ∧ z0 = []) ∨ ∃ x, a0 = some x ∧ len0 ≤ cap0 ∧ cap0 ≤ maxLen ∧ z0.length = cap0 ∧ (∀ i, i < z0.length → w.cell? (x.add i) = some (.int .u8 (z0.getD i 0))) ∧ ∀ n ∈ z0, (Lit.int .u8 n).wf = true) (y0 : len0 * 1 ≤ 140737488351232) :
  Calls Try.prog 7 #[.slice a0 len0 cap0] w fun e w' => e = .returned (.bool true) ∧ Below w.heap.size w w' := by
 obtain ⟨l0, rfl, hr0, hm0, hw0, hc0⟩ := ReadsInt.ofRowC w0
 obtain ⟨k, h⟩ := P l0 hm0 y0 hw0
 refine (laws_FnCombined.calls k _ _ l0 true w (Kd.C_of_reads (d := (0 : Int)) (h1 := fun _ => rfl) hr0) hc0 h).mono ?_
 rintro e w' ⟨rfl, hd⟩
 exact ⟨rfl, hd⟩

end Go.Proofs.Ytghiljjkaiggfaa.QFnCombined
