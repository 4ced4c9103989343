-- Made by a program of this claim's own (wip/print): not the kit's print as it stands.
import Derived.Test.YtghiljjkaiggfaaUFnSystemsTwo
import Derived.Test.YtghiljjkaiggfaaQFnSystemsx0
import Derived.Test.YtghiljjkaiggfaaQFnSystemsx1
import Derived.Test.YtghiljjkaiggfaaQFnSystemsx3
import Derived.Test.YtghiljjkaiggfaaQFnSystemsx4
import Derived.Test.YtghiljjkaiggfaaQFnSystemsx5
import Derived.Test.YtghiljjkaiggfaaQFnSystemsx10
import Derived.Test.YtghiljjkaiggfaaQFnSystemsx11
import Derived.Test.YtghiljjkaiggfaaQFnSystemsx12
import Derived.Test.YtghiljjkaiggfaaQFnSystemsx13
namespace Go.Proofs.Ytghiljjkaiggfaa.QFnSystems
open Go.RowKit Go.Proofs.YtghiljjkaiggfaaV.PrintWords Go.Proofs.YtghiljjkaiggfaaV.PrintLast Go.Proofs.YtghiljjkaiggfaaV.PrintMore
attribute [local go_sem] max2_int min2_int max_two min_two max_three min_three max_four min_four   -- for this text's walks alone
set_option linter.unusedVariables false
set_option linter.unusedSimpArgs false

/-! ### laws_FnSystems: function 6 -/
mutual
def laws_FnSystems.j0 : Nat → List Int → Bool → Bool → Int → List (S36) → Int → List Int → Int → List (S36) → Option (Bool)
 | 0, _, _, _, _, _, _, _, _, _ => none
 | k + 1, x0, x6, x47, x448000, x448001, x449000, x449001, x455000, x455001 => if x47 = true then (some false) else (if x6 = true then (laws_FnSystems.l0 k x0 (([] : List Int)) 0 x448000 x448001 x449000 x449001 x455000 x455001) else ((spec_EqualSystem.f k x455000 x455001 x448000 x448001).bind fun t464 => (some t464)))
def laws_FnSystems.l0 : Nat → List Int → List Int → Int → Int → List (S36) → Int → List Int → Int → List (S36) → Option (Bool)
 | 0, _, _, _, _, _, _, _, _, _ => none
 | k + 1, x0, x9, x10, x448000, x448001, x449000, x449001, x455000, x455001 => if x10 < x448000 then ((laws_at0.f x0 x10).bind fun t468 => (if x9.length < 17592186044416 then (laws_FnSystems.l0 k x0 (x9 ++ [wrap64 ((Int.tmod t468 16) - 5)]) (wrap64 (x10 + 1)) x448000 x448001 x449000 x449001 x455000 x455001) else (none))) else ((spec_EvalLin.f k x449000 x449001 x9).bind fun bt472 => ((impl_Satisfies.f k x455000 x455001 x9).bind fun t474 => ((impl_Satisfies.f k x448000 x448001 x9).bind fun t475 => (if t475 = true then (if (t474 == (decide (bt472.1 ≥ 0))) = true then ((impl_Satisfies.f k x448000 x448001 x9).bind fun t476 => ((spec_Satisfies.f k x448000 x448001 x9).bind fun t477 => (some (t476 == t477)))) else (some false)) else (if (t474 == false) = true then ((impl_Satisfies.f k x448000 x448001 x9).bind fun t478 => ((spec_Satisfies.f k x448000 x448001 x9).bind fun t479 => (some (t478 == t479)))) else (some false))))))
end
def laws_FnSystems.f (k : Nat) (l0 : List Int) : Option (Bool) := (laws_big.f l0).bind fun t438 => (if t438 = true then (some true) else ((spec_DrawAddRow.f k l0).bind fun bt439 => ((impl_AddRow.f k bt439.1 bt439.2.1 bt439.2.2.1 bt439.2.2.2).bind fun bt449 => ((spec_AddRow.f k bt439.1 bt439.2.1 bt439.2.2.1 bt439.2.2.2).bind fun bt455 => (if (bt449.2.2 != bt455.2.2) = true then (laws_FnSystems.j0 k l0 bt449.2.2 true bt439.1 bt439.2.1 bt439.2.2.1 bt439.2.2.2 bt449.1 bt449.2.1) else ((impl_EqualSystem.f k bt449.1 bt449.2.1 bt455.1 bt455.2.1).bind fun t461 => (if t461 = true then ((impl_IsValidSystem.f k bt439.1 bt439.2.1).bind fun t462 => ((spec_IsValidSystem.f k bt439.1 bt439.2.1).bind fun t463 => (laws_FnSystems.j0 k l0 bt449.2.2 (t462 != t463) bt439.1 bt439.2.1 bt439.2.2.1 bt439.2.2.2 bt449.1 bt449.2.1))) else (laws_FnSystems.j0 k l0 bt449.2.2 true bt439.1 bt439.2.1 bt439.2.2.1 bt439.2.2.2 bt449.1 bt449.2.1))))))))
theorem laws_FnSystems.mono_l : ∀ k, (∀ y0 y1 y2 y3 y4 y5 y6 y7 y8, LeO (laws_FnSystems.j0 k y0 y1 y2 y3 y4 y5 y6 y7 y8) (laws_FnSystems.j0 (k + 1) y0 y1 y2 y3 y4 y5 y6 y7 y8)) ∧ (∀ y0 y1 y2 y3 y4 y5 y6 y7 y8, LeO (laws_FnSystems.l0 k y0 y1 y2 y3 y4 y5 y6 y7 y8) (laws_FnSystems.l0 (k + 1) y0 y1 y2 y3 y4 y5 y6 y7 y8))
 | 0 => ⟨fun _ _ _ _ _ _ _ _ _ r h => by simp [laws_FnSystems.j0] at h, fun _ _ _ _ _ _ _ _ _ r h => by simp [laws_FnSystems.l0] at h⟩
 | k + 1 => by
  obtain ⟨ih0, ih1⟩ := laws_FnSystems.mono_l k
  refine ⟨?_, ?_⟩
  ·intro y0 y1 y2 y3 y4 y5 y6 y7 y8
   unfold laws_FnSystems.j0
   repeat' first
   | (with_reducible exact ih0 _ _ _ _ _ _ _ _ _)
   | (with_reducible exact ih1 _ _ _ _ _ _ _ _ _)
   | (with_reducible exact impl_AddRow.mono _ _ _ _ _)
   | (with_reducible exact impl_EqualSystem.mono _ _ _ _ _)
   | (with_reducible exact impl_IsValidSystem.mono _ _ _)
   | (with_reducible exact impl_Satisfies.mono _ _ _ _)
   | (with_reducible exact spec_AddRow.mono _ _ _ _ _)
   | (with_reducible exact spec_DrawAddRow.mono _ _)
   | (with_reducible exact spec_EqualSystem.mono _ _ _ _ _)
   | (with_reducible exact spec_EvalLin.mono _ _ _ _)
   | (with_reducible exact spec_IsValidSystem.mono _ _ _)
   | (with_reducible exact spec_Satisfies.mono _ _ _ _)
   | (with_reducible exact LeO.refl _)
   | (with_reducible exact LeO.none _)
   | (with_reducible refine LeO.ite ?_ ?_)
   | (with_reducible refine LeO.bind ?_ (fun _ => ?_))
   | exact ih0 _ _ _ _ _ _ _ _ _
   | exact ih1 _ _ _ _ _ _ _ _ _
   | exact impl_AddRow.mono _ _ _ _ _
   | exact impl_EqualSystem.mono _ _ _ _ _
   | exact impl_IsValidSystem.mono _ _ _
   | exact impl_Satisfies.mono _ _ _ _
   | exact spec_AddRow.mono _ _ _ _ _
   | exact spec_DrawAddRow.mono _ _
   | exact spec_EqualSystem.mono _ _ _ _ _
   | exact spec_EvalLin.mono _ _ _ _
   | exact spec_IsValidSystem.mono _ _ _
   | exact spec_Satisfies.mono _ _ _ _
   | exact LeO.none _
   | refine LeO.ite ?_ ?_
   | refine LeO.bind ?_ (fun _ => ?_)
  ·intro y0 y1 y2 y3 y4 y5 y6 y7 y8
   unfold laws_FnSystems.l0
   repeat' first
   | (with_reducible exact ih0 _ _ _ _ _ _ _ _ _)
   | (with_reducible exact ih1 _ _ _ _ _ _ _ _ _)
   | (with_reducible exact impl_AddRow.mono _ _ _ _ _)
   | (with_reducible exact impl_EqualSystem.mono _ _ _ _ _)
   | (with_reducible exact impl_IsValidSystem.mono _ _ _)
   | (with_reducible exact impl_Satisfies.mono _ _ _ _)
   | (with_reducible exact spec_AddRow.mono _ _ _ _ _)
   | (with_reducible exact spec_DrawAddRow.mono _ _)
   | (with_reducible exact spec_EqualSystem.mono _ _ _ _ _)
   | (with_reducible exact spec_EvalLin.mono _ _ _ _)
   | (with_reducible exact spec_IsValidSystem.mono _ _ _)
   | (with_reducible exact spec_Satisfies.mono _ _ _ _)
   | (with_reducible exact LeO.refl _)
   | (with_reducible exact LeO.none _)
   | (with_reducible refine LeO.ite ?_ ?_)
   | (with_reducible refine LeO.bind ?_ (fun _ => ?_))
   | exact ih0 _ _ _ _ _ _ _ _ _
   | exact ih1 _ _ _ _ _ _ _ _ _
   | exact impl_AddRow.mono _ _ _ _ _
   | exact impl_EqualSystem.mono _ _ _ _ _
   | exact impl_IsValidSystem.mono _ _ _
   | exact impl_Satisfies.mono _ _ _ _
   | exact spec_AddRow.mono _ _ _ _ _
   | exact spec_DrawAddRow.mono _ _
   | exact spec_EqualSystem.mono _ _ _ _ _
   | exact spec_EvalLin.mono _ _ _ _
   | exact spec_IsValidSystem.mono _ _ _
   | exact spec_Satisfies.mono _ _ _ _
   | exact LeO.none _
   | refine LeO.ite ?_ ?_
   | refine LeO.bind ?_ (fun _ => ?_)
theorem laws_FnSystems.mono : ∀ a0 k, LeO (laws_FnSystems.f k a0) (laws_FnSystems.f (k + 1) a0) := by
 intro a0 k
 obtain ⟨ih0, ih1⟩ := laws_FnSystems.mono_l k
 unfold laws_FnSystems.f
 repeat' first
   | (with_reducible exact ih0 _ _ _ _ _ _ _ _ _)
   | (with_reducible exact ih1 _ _ _ _ _ _ _ _ _)
   | (with_reducible exact impl_AddRow.mono _ _ _ _ _)
   | (with_reducible exact impl_EqualSystem.mono _ _ _ _ _)
   | (with_reducible exact impl_IsValidSystem.mono _ _ _)
   | (with_reducible exact impl_Satisfies.mono _ _ _ _)
   | (with_reducible exact spec_AddRow.mono _ _ _ _ _)
   | (with_reducible exact spec_DrawAddRow.mono _ _)
   | (with_reducible exact spec_EqualSystem.mono _ _ _ _ _)
   | (with_reducible exact spec_EvalLin.mono _ _ _ _)
   | (with_reducible exact spec_IsValidSystem.mono _ _ _)
   | (with_reducible exact spec_Satisfies.mono _ _ _ _)
   | (with_reducible exact LeO.refl _)
   | (with_reducible exact LeO.none _)
   | (with_reducible refine LeO.ite ?_ ?_)
   | (with_reducible refine LeO.bind ?_ (fun _ => ?_))
   | exact ih0 _ _ _ _ _ _ _ _ _
   | exact ih1 _ _ _ _ _ _ _ _ _
   | exact impl_AddRow.mono _ _ _ _ _
   | exact impl_EqualSystem.mono _ _ _ _ _
   | exact impl_IsValidSystem.mono _ _ _
   | exact impl_Satisfies.mono _ _ _ _
   | exact spec_AddRow.mono _ _ _ _ _
   | exact spec_DrawAddRow.mono _ _
   | exact spec_EqualSystem.mono _ _ _ _ _
   | exact spec_EvalLin.mono _ _ _ _
   | exact spec_IsValidSystem.mono _ _ _
   | exact spec_Satisfies.mono _ _ _ _
   | exact LeO.none _
   | refine LeO.ite ?_ ?_
   | refine LeO.bind ?_ (fun _ => ?_)
def laws_FnSystems.T6 : Bool × List (List Nat × List Nat) := (true, [([], []), ([], []), ([0, 1], [0, 1]), ([2], [2]), ([3], [3]), ([3], [3]), ([4, 5, 3, 3], [3, 4, 5]), ([6, 3], [3, 6]), ([3, 7], [3, 7]), ([8, 6], [8]), ([9], [9]), ([10, 9, 9], [9, 10]), ([9], [9]), ([12, 11, 9], [9, 12]), ([11, 13, 9], [9, 11, 13]), ([9, 14], [9, 14])])
def laws_FnSystems.B6 : List Nat := [0, 0, 3, 7, 15, 15, 63, 127, 255, 511, 1023, 2047, 1023, 8191, 16383, 32767]
theorem laws_FnSystems.tab6 : rtab .any (opsOf Try.f6 6) = laws_FnSystems.T6 := by kernel_rfl
theorem laws_FnSystems.bits6 : waitsOk laws_FnSystems.T6.2 laws_FnSystems.B6 = true := by kernel_rfl
def laws_FnSystems.T16 : Bool × List (List Nat × List Nat) := (true, [([], []), ([], []), ([0, 1], [0, 1]), ([], []), ([], []), ([3, 4, 2], [3, 4]), ([5, 5], [5]), ([6], [6]), ([7, 6], [6, 7]), ([6, 8], [6, 8]), ([2, 9], [2, 9]), ([10, 6], [10]), ([11], [11]), ([11], [11]), ([12, 13, 11, 11], [11, 12, 13]), ([11], [11]), ([11], [11]), ([15, 16, 14, 11], [11, 15, 16]), ([14, 17, 11], [11, 14, 17]), ([11, 18], [11, 18]), ([19, 17, 0, 1, 2, 3, 4, 5, 6, 7, 8, 9, 10, 11, 12, 13, 14, 15, 16, 17, 18, 19], [19])])
def laws_FnSystems.B16 : List Nat := [0, 0, 3, 0, 0, 31, 63, 127, 255, 511, 1023, 2047, 4095, 4095, 16383, 4095, 4095, 131071, 262143, 524287, 1048575]
theorem laws_FnSystems.tab16 : rtab .any (opsOf Try.f6 16) = laws_FnSystems.T16 := by kernel_rfl
theorem laws_FnSystems.bits16 : waitsOk laws_FnSystems.T16.2 laws_FnSystems.B16 = true := by kernel_rfl
set_option maxHeartbeats 8000000 in
set_option maxRecDepth 100000 in
theorem laws_FnSystems.calls (k : Nat) (A0 : Option Addr) (c0 : Nat) (l0 : List Int) (r : Bool) (w : World) (hr0 : Kd.C (Kd.int .u8) w A0 l0.length l0) (hc0 : l0.length ≤ c0) (h : laws_FnSystems.f k l0 = some r) :
  Calls Try.prog 6 #[.slice A0 l0.length c0] w fun e w' => e = .returned (.bool r) ∧ Below w.heap.size w w' := by
 have hu32 := Try.underlying32
 have hu36 := Try.underlying36
 have HR0 := Aside0.mk hr0
 have HC0 := Aside0.mk hc0
 clear hr0 hc0
 have HB := Aside0.mk (Below.refl w.heap.size w)
 have H : ((laws_big.f l0).bind fun t438 => (if t438 = true then (some true) else ((spec_DrawAddRow.f k l0).bind fun bt439 => ((impl_AddRow.f k bt439.1 bt439.2.1 bt439.2.2.1 bt439.2.2.2).bind fun bt449 => ((spec_AddRow.f k bt439.1 bt439.2.1 bt439.2.2.1 bt439.2.2.2).bind fun bt455 => (if (bt449.2.2 != bt455.2.2) = true then (laws_FnSystems.j0 k l0 bt449.2.2 true bt439.1 bt439.2.1 bt439.2.2.1 bt439.2.2.2 bt449.1 bt449.2.1) else ((impl_EqualSystem.f k bt449.1 bt449.2.1 bt455.1 bt455.2.1).bind fun t461 => (if t461 = true then ((impl_IsValidSystem.f k bt439.1 bt439.2.1).bind fun t462 => ((spec_IsValidSystem.f k bt439.1 bt439.2.1).bind fun t463 => (laws_FnSystems.j0 k l0 bt449.2.2 (t462 != t463) bt439.1 bt439.2.1 bt439.2.2.1 bt439.2.2.2 bt449.1 bt449.2.1))) else (laws_FnSystems.j0 k l0 bt449.2.2 true bt439.1 bt439.2.1 bt439.2.2.1 bt439.2.2.2 bt449.1 bt449.2.1))))))))) = some r := h
 clear h
 replace H := Option.bind_eq_some_iff.mp H
 obtain ⟨t438, A20, H⟩ := H
 replace H : (if t438 = true then (some true) else ((spec_DrawAddRow.f k l0).bind fun bt439 => ((impl_AddRow.f k bt439.1 bt439.2.1 bt439.2.2.1 bt439.2.2.2).bind fun bt449 => ((spec_AddRow.f k bt439.1 bt439.2.1 bt439.2.2.1 bt439.2.2.2).bind fun bt455 => (if (bt449.2.2 != bt455.2.2) = true then (laws_FnSystems.j0 k l0 bt449.2.2 true bt439.1 bt439.2.1 bt439.2.2.1 bt439.2.2.2 bt449.1 bt449.2.1) else ((impl_EqualSystem.f k bt449.1 bt449.2.1 bt455.1 bt455.2.1).bind fun t461 => (if t461 = true then ((impl_IsValidSystem.f k bt439.1 bt439.2.1).bind fun t462 => ((spec_IsValidSystem.f k bt439.1 bt439.2.1).bind fun t463 => (laws_FnSystems.j0 k l0 bt449.2.2 (t462 != t463) bt439.1 bt439.2.1 bt439.2.2.1 bt439.2.2.2 bt449.1 bt449.2.1))) else (laws_FnSystems.j0 k l0 bt449.2.2 true bt439.1 bt439.2.1 bt439.2.2.1 bt439.2.2.2 bt449.1 bt449.2.1)))))))) = some r := H
 have A2 := Aside0.mk A20
 clear A20
 by_cases c3 : t438 = true
 ·subst c3
  have H1 : (some true) = some r := by rw [if_pos rfl] at H; exact H
  clear H
  have H := H1
  clear H1
  obtain rfl := Option.some.inj H
  go_enter Try.func6, Try.ntmps6
  go_wp2_with (first | ((with_reducible refine gate_callee (f := 30) rfl ?_); refine goesL_ (some 14) rfl rfl Try.func30 (by kernel_rfl) rfl #[.slice A0 l0.length c0] rfl (by (try simp only [List.map_toArray, List.map_cons, List.map_nil]); first | done | rfl | (simp only [List.length_drop, List.length_take]; rfl)) ?_; (with_reducible refine (laws_big.calls _ _ l0 true _ ?side1 ?side2 A2.out).mono ?_); (case side1 => repeat (first | exact HR0.out | (with_reducible refine Kd.C_alloc ?_ _) | (with_reducible refine Kd.C_drewN ?_ _) | (with_reducible refine Kd.C_drew ?_))); (case side2 => exact HC0.out); rintro e w' ⟨rfl, ⟨nd, rfl⟩⟩; refine ⟨_, rfl, ?_⟩))
  go_ret
  exact ⟨by first | rfl | (simp [errW_none, errW_some] <;> rfl) | (simp [*, errW_none, errW_some] <;> rfl), ms HB⟩
 ·replace c3 := Bool.eq_false_iff.mpr c3
  subst c3
  have H1 : ((spec_DrawAddRow.f k l0).bind fun bt439 => ((impl_AddRow.f k bt439.1 bt439.2.1 bt439.2.2.1 bt439.2.2.2).bind fun bt449 => ((spec_AddRow.f k bt439.1 bt439.2.1 bt439.2.2.1 bt439.2.2.2).bind fun bt455 => (if (bt449.2.2 != bt455.2.2) = true then (laws_FnSystems.j0 k l0 bt449.2.2 true bt439.1 bt439.2.1 bt439.2.2.1 bt439.2.2.2 bt449.1 bt449.2.1) else ((impl_EqualSystem.f k bt449.1 bt449.2.1 bt455.1 bt455.2.1).bind fun t461 => (if t461 = true then ((impl_IsValidSystem.f k bt439.1 bt439.2.1).bind fun t462 => ((spec_IsValidSystem.f k bt439.1 bt439.2.1).bind fun t463 => (laws_FnSystems.j0 k l0 bt449.2.2 (t462 != t463) bt439.1 bt439.2.1 bt439.2.2.1 bt439.2.2.2 bt449.1 bt449.2.1))) else (laws_FnSystems.j0 k l0 bt449.2.2 true bt439.1 bt439.2.1 bt439.2.2.1 bt439.2.2.2 bt449.1 bt449.2.1))))))) = some r := by rw [if_neg (show ¬ (false = true) by decide)] at H; exact H
  clear H
  have H := H1
  clear H1
  replace H := Option.bind_eq_some_iff.mp H
  obtain ⟨⟨t439, t440, t443, t444⟩, A40, H⟩ := H
  replace H : ((impl_AddRow.f k t439 t440 t443 t444).bind fun bt449 => ((spec_AddRow.f k t439 t440 t443 t444).bind fun bt455 => (if (bt449.2.2 != bt455.2.2) = true then (laws_FnSystems.j0 k l0 bt449.2.2 true t439 t440 t443 t444 bt449.1 bt449.2.1) else ((impl_EqualSystem.f k bt449.1 bt449.2.1 bt455.1 bt455.2.1).bind fun t461 => (if t461 = true then ((impl_IsValidSystem.f k t439 t440).bind fun t462 => ((spec_IsValidSystem.f k t439 t440).bind fun t463 => (laws_FnSystems.j0 k l0 bt449.2.2 (t462 != t463) t439 t440 t443 t444 bt449.1 bt449.2.1))) else (laws_FnSystems.j0 k l0 bt449.2.2 true t439 t440 t443 t444 bt449.1 bt449.2.1)))))) = some r := H
  have A4 := Aside0.mk A40
  clear A40
  replace H := Option.bind_eq_some_iff.mp H
  obtain ⟨⟨t449, t450, t453⟩, A50, H⟩ := H
  replace H : ((spec_AddRow.f k t439 t440 t443 t444).bind fun bt455 => (if (t453 != bt455.2.2) = true then (laws_FnSystems.j0 k l0 t453 true t439 t440 t443 t444 t449 t450) else ((impl_EqualSystem.f k t449 t450 bt455.1 bt455.2.1).bind fun t461 => (if t461 = true then ((impl_IsValidSystem.f k t439 t440).bind fun t462 => ((spec_IsValidSystem.f k t439 t440).bind fun t463 => (laws_FnSystems.j0 k l0 t453 (t462 != t463) t439 t440 t443 t444 t449 t450))) else (laws_FnSystems.j0 k l0 t453 true t439 t440 t443 t444 t449 t450))))) = some r := H
  have A5 := Aside0.mk A50
  clear A50
  replace H := Option.bind_eq_some_iff.mp H
  obtain ⟨⟨t455, t456, t459⟩, A60, H⟩ := H
  replace H : (if (t453 != t459) = true then (laws_FnSystems.j0 k l0 t453 true t439 t440 t443 t444 t449 t450) else ((impl_EqualSystem.f k t449 t450 t455 t456).bind fun t461 => (if t461 = true then ((impl_IsValidSystem.f k t439 t440).bind fun t462 => ((spec_IsValidSystem.f k t439 t440).bind fun t463 => (laws_FnSystems.j0 k l0 t453 (t462 != t463) t439 t440 t443 t444 t449 t450))) else (laws_FnSystems.j0 k l0 t453 true t439 t440 t443 t444 t449 t450)))) = some r := H
  have A6 := Aside0.mk A60
  clear A60
  have HC7 := Aside0.mk H
  clear H
  go_enter Try.func6, Try.ntmps6
  go_upto_region 6 with (first | ((with_reducible refine gate_callee (f := 30) rfl ?_); refine goesL_ (some 14) rfl rfl Try.func30 (by kernel_rfl) rfl #[.slice A0 l0.length c0] rfl (by (try simp only [List.map_toArray, List.map_cons, List.map_nil]); first | done | rfl | (simp only [List.length_drop, List.length_take]; rfl)) ?_; (with_reducible refine (laws_big.calls _ _ l0 false _ ?side1 ?side2 A2.out).mono ?_); (case side1 => repeat (first | exact HR0.out | (with_reducible refine Kd.C_alloc ?_ _) | (with_reducible refine Kd.C_drewN ?_ _) | (with_reducible refine Kd.C_drew ?_))); (case side2 => exact HC0.out); rintro e w' ⟨rfl, ⟨nd, rfl⟩⟩; refine ⟨_, rfl, ?_⟩) | ((with_reducible refine gate_callee (f := 31) rfl ?_); refine goesL_ (some 17) rfl rfl Try.func31 (by kernel_rfl) rfl #[.slice A0 l0.length c0] rfl (by (try simp only [List.map_toArray, List.map_cons, List.map_nil]); first | done | rfl | (simp only [List.length_drop, List.length_take]; rfl)) ?_; (with_reducible refine (spec_DrawAddRow.calls k _ _ l0 t439 t440 t443 t444 _ ?side1 ?side2 A4.out).mono ?_); (case side1 => repeat (first | exact HR0.out | (with_reducible refine Kd.C_alloc ?_ _) | (with_reducible refine Kd.C_drewN ?_ _) | (with_reducible refine Kd.C_drew ?_))); (case side2 => exact HC0.out); rintro e w8 ⟨v441, v445, rfl, ho0, ho1, hb⟩; refine ⟨_, rfl, ?_⟩; have HO442 := Aside0.mk (Kd.S_lower ho0 (below_size (ms HB))); have HO446 := Aside0.mk (Kd.R_lower ho1 (below_size (ms HB))); replace HB := bs HB hb; (try clear hb); (try clear ho0); (try clear ho1)) | ((with_reducible refine gate_dst (N := 3) rfl ?_); refine box_event ?hg (N := 3) ?hd (cs := #[.int .i64 0, .slice none 0 0]) (t := 32) ?hr ?_; (case hd => rfl); (case hg => rfl); (case hr => first | (go_simp; done) | (go_simp; rfl)); intro gb447 hg w9 hbox hb; have n0_ := Aside0.mk (Kd.S_below (by (with_reducible repeat (first | apply Kd.S_alloc | apply Kd.S_drewN | apply Kd.S_drew)); exact HO442.out) hb); have n1_ := rb HO446 hb; have n2_ := bs HB hb; have n3_ := Aside0.mk (hbox); have n4_ := gw hg HB; have n5_ := gw hg HB; clear HO442 HO446 HB; have HO442 := n0_; have HO446 := n1_; have HB := n2_; have BK447 := n3_; have GW447 := n4_; have GE447 := n5_; clear n0_ n1_ n2_ n3_ n4_ n5_; clear hb hbox hg) | ((with_reducible refine gate_dst (N := 4) rfl ?_); refine box_event ?hg (N := 4) ?hd (cs := #[.int .i64 0, .slice none 0 0]) (t := 36) ?hr ?_; (case hd => rfl); (case hg => rfl); (case hr => first | (go_simp; done) | (go_simp; rfl)); intro gb448 hg w10 hbox hb; have n0_ := Aside0.mk (Kd.S_below (Kd.S_elderB (by (with_reducible repeat (first | apply Kd.S_alloc | apply Kd.S_drewN | apply Kd.S_drew)); exact HO442.out) gb448 (Nat.le_of_eq hg.symm)) hb); have n1_ := rb HO446 hb; have n2_ := bb BK447 hb; have n3_ := bs HB hb; have n4_ := Aside0.mk (hbox); have n5_ := gw hg HB; have n6_ := gw hg HB; have n7_ := nl hg BK447; have n8_ := ng hg BK447; clear HO442 HO446 BK447 HB; have HO442 := n0_; have HO446 := n1_; have BK447 := n2_; have HB := n3_; have BK448 := n4_; have GW448 := n5_; have GE448 := n6_; have NB447_448 := n7_; have NB448_447 := n8_; clear n0_ n1_ n2_ n3_ n4_ n5_ n6_ n7_ n8_; clear hb hbox hg; have hnb11 := NB447_448.out; have hnc11 := NB448_447.out; obtain ⟨hcz12_0, hcz12_1⟩ := c2 BK447; have hfz12_0 := blk_frozen BK447.out 0; have hfz12_1 := blk_frozen BK447.out 1; obtain ⟨Ao13, co13, eo13⟩ := Kd.S_slice HO442.out; subst eo13; obtain ⟨hcz14_0, hcz14_1⟩ := c2 BK448; have hfz14_0 := blk_frozen BK448.out 0; have hfz14_1 := blk_frozen BK448.out 1; obtain ⟨Ao15, co15, eo15⟩ := Kd.R_slice HO446.out; subst eo15) | ((with_reducible refine gate_callee (f := 16) rfl ?_); refine goesL_ (some 23) rfl rfl Try.func16 (by kernel_rfl) rfl #[.agg #[.int .i64 t439, .slice Ao13 t440.length co13], .agg #[.int .i64 t443, .slice Ao15 t444.length co15]] rfl (by (try simp only [List.map_toArray, List.map_cons, List.map_nil]); first | done | rfl | (simp only [List.length_drop, List.length_take]; rfl)) ?_; (with_reducible refine (impl_AddRow.calls k t439 _ _ t440 t443 _ _ t444 t449 t450 t453 _ ?side1 ?side2 ?side3 ?side4 A5.out).mono ?_); (case side1 => refine (Kd.S_reads' (e := 36) (base := w.heap.size) (ok := fun k_ => (some k_ ≠ (.slice Ao15 t444.length co15 : Value).ownBlock ∧ k_ ≠ gb448)) (n := t440.length) (c := co13) ?_).2.2; exact (by (with_reducible repeat (first | apply Kd.S_alloc | apply Kd.S_drewN | apply Kd.S_drew)); exact (Kd.S_mono (Kd.S_mono (Kd.S_far (p := ⟨gb448, 1, none⟩) (Kd.S_far (p := ⟨gb448, 0, none⟩) (Kd.S_far (p := ⟨gb447, 1, none⟩) (Kd.S_far (p := ⟨gb447, 0, none⟩) (Kd.S_mono (Kd.S_types HO442.out BK447.out (by decide)) (fun k_ hk => (⟨hk, hk.1.2⟩ : _ ∧ k_ ≠ gb448))) (fun _ hk => hk.1.2) (.int .i64 t439)) (fun _ hk => hk.1.2) (.slice Ao13 t440.length co13)) (fun _ hk => hk.2) (.int .i64 t443)) (fun _ hk => hk.2) (.slice Ao15 t444.length co15)) (fun _ h_ => h_.1)) (fun _ h_ => h_.1)))); (case side2 => exact (Kd.S_reads' HO442.out).2.1); (case side3 => refine (Kd.R_reads' (e := 3) (base := w.heap.size) (ok := fun k_ => True) (n := t444.length) (c := co15) ?_).2.2; exact (by (with_reducible repeat (first | apply Kd.R_alloc | apply Kd.R_drewN | apply Kd.R_drew)); exact (Kd.R_mono (Kd.R_mono (Kd.R_far (p := ⟨gb448, 1, none⟩) (Kd.R_far (p := ⟨gb448, 0, none⟩) (Kd.R_far (p := ⟨gb447, 1, none⟩) (Kd.R_far (p := ⟨gb447, 0, none⟩) (Kd.R_types (Kd.R_types HO446.out BK447.out (by decide)) BK448.out (by decide)) (fun _ hk => hk.1.2) (.int .i64 t439)) (fun _ hk => hk.1.2) (.slice Ao13 t440.length co13)) (fun _ hk => hk.2) (.int .i64 t443)) (fun _ hk => hk.2) (.slice Ao15 t444.length co15)) (fun _ h_ => h_.1)) (fun _ h_ => h_.1)))); (case side4 => exact (Kd.R_reads' HO446.out).2.1); rintro e w16 ⟨v451, rfl, ho0, hb⟩; refine ⟨_, rfl, ?_⟩; have n0_ := Aside0.mk (Kd.S_elder' (by (with_reducible repeat (first | apply Kd.S_alloc | apply Kd.S_drewN | apply Kd.S_drew)); exact (Kd.S_mono (Kd.S_mono (Kd.S_far (p := ⟨gb448, 1, none⟩) (Kd.S_far (p := ⟨gb448, 0, none⟩) (Kd.S_far (p := ⟨gb447, 1, none⟩) (Kd.S_far (p := ⟨gb447, 0, none⟩) (Kd.S_mono (Kd.S_types HO442.out BK447.out (by decide)) (fun k_ hk => (⟨hk, hk.1.2⟩ : _ ∧ k_ ≠ gb448))) (fun _ hk => hk.1.2) (.int .i64 t439)) (fun _ hk => hk.1.2) (.slice Ao13 t440.length co13)) (fun _ hk => hk.2) (.int .i64 t443)) (fun _ hk => hk.2) (.slice Ao15 t444.length co15)) (fun _ h_ => h_.1)) (fun _ h_ => h_.1))) (Kd.S_base ho0) hb); have n1_ := Aside0.mk (Kd.R_below (by (with_reducible repeat (first | apply Kd.R_alloc | apply Kd.R_drewN | apply Kd.R_drew)); exact (Kd.R_mono (Kd.R_mono (Kd.R_far (p := ⟨gb448, 1, none⟩) (Kd.R_far (p := ⟨gb448, 0, none⟩) (Kd.R_far (p := ⟨gb447, 1, none⟩) (Kd.R_far (p := ⟨gb447, 0, none⟩) (Kd.R_types (Kd.R_types HO446.out BK447.out (by decide)) BK448.out (by decide)) (fun _ hk => hk.1.2) (.int .i64 t439)) (fun _ hk => hk.1.2) (.slice Ao13 t440.length co13)) (fun _ hk => hk.2) (.int .i64 t443)) (fun _ hk => hk.2) (.slice Ao15 t444.length co15)) (fun _ h_ => h_.1)) (fun _ h_ => h_.1))) hb); have n2_ := Aside0.mk (Kd.S_lower (Kd.S_newB (Kd.S_new' (Kd.S_new' ho0 (Kd.S_lt (by (with_reducible repeat (first | apply Kd.S_alloc | apply Kd.S_drewN | apply Kd.S_drew)); exact (Kd.S_mono (Kd.S_mono (Kd.S_far (p := ⟨gb448, 1, none⟩) (Kd.S_far (p := ⟨gb448, 0, none⟩) (Kd.S_far (p := ⟨gb447, 1, none⟩) (Kd.S_far (p := ⟨gb447, 0, none⟩) (Kd.S_mono (Kd.S_types HO442.out BK447.out (by decide)) (fun k_ hk => (⟨hk, hk.1.2⟩ : _ ∧ k_ ≠ gb448))) (fun _ hk => hk.1.2) (.int .i64 t439)) (fun _ hk => hk.1.2) (.slice Ao13 t440.length co13)) (fun _ hk => hk.2) (.int .i64 t443)) (fun _ hk => hk.2) (.slice Ao15 t444.length co15)) (fun _ h_ => h_.1)) (fun _ h_ => h_.1))))) (Kd.R_lt (by (with_reducible repeat (first | apply Kd.R_alloc | apply Kd.R_drewN | apply Kd.R_drew)); exact (Kd.R_mono (Kd.R_mono (Kd.R_far (p := ⟨gb448, 1, none⟩) (Kd.R_far (p := ⟨gb448, 0, none⟩) (Kd.R_far (p := ⟨gb447, 1, none⟩) (Kd.R_far (p := ⟨gb447, 0, none⟩) (Kd.R_types (Kd.R_types HO446.out BK447.out (by decide)) BK448.out (by decide)) (fun _ hk => hk.1.2) (.int .i64 t439)) (fun _ hk => hk.1.2) (.slice Ao13 t440.length co13)) (fun _ hk => hk.2) (.int .i64 t443)) (fun _ hk => hk.2) (.slice Ao15 t444.length co15)) (fun _ h_ => h_.1)) (fun _ h_ => h_.1))))) (g := gb448) (o := .cells #[.int .i64 t443, .slice Ao15 t444.length co15] 36 (0, 0)) (by (with_reducible repeat (first | refine blk_drewN ?_ _ | refine blk_drew ?_ | refine blk_alloc ?_ _)); refine blk_put (cs := #[.int .i64 t443, .slice none 0 0]) ?_ 1 _ rfl; (with_reducible repeat (first | refine blk_drewN ?_ _ | refine blk_drew ?_ | refine blk_alloc ?_ _)); refine blk_put (cs := #[.int .i64 0, .slice none 0 0]) ?_ 0 _ rfl; (with_reducible repeat (first | refine blk_drewN ?_ _ | refine blk_drew ?_ | refine blk_alloc ?_ _)); refine blk_far ?_ NB448_447.out _; (with_reducible repeat (first | refine blk_drewN ?_ _ | refine blk_drew ?_ | refine blk_alloc ?_ _)); refine blk_far ?_ NB448_447.out _; (with_reducible repeat (first | refine blk_drewN ?_ _ | refine blk_drew ?_ | refine blk_alloc ?_ _)); exact BK448.out)) (below_size (ms HB))); have n3_ := Aside0.mk (blk_below (g := gb447) (o := .cells #[.int .i64 t439, .slice Ao13 t440.length co13] 32 (0, 0)) (by (with_reducible repeat (first | refine blk_drewN ?_ _ | refine blk_drew ?_ | refine blk_alloc ?_ _)); refine blk_far ?_ NB447_448.out _; (with_reducible repeat (first | refine blk_drewN ?_ _ | refine blk_drew ?_ | refine blk_alloc ?_ _)); refine blk_far ?_ NB447_448.out _; (with_reducible repeat (first | refine blk_drewN ?_ _ | refine blk_drew ?_ | refine blk_alloc ?_ _)); refine blk_put (cs := #[.int .i64 t439, .slice none 0 0]) ?_ 1 _ rfl; (with_reducible repeat (first | refine blk_drewN ?_ _ | refine blk_drew ?_ | refine blk_alloc ?_ _)); refine blk_put (cs := #[.int .i64 0, .slice none 0 0]) ?_ 0 _ rfl; (with_reducible repeat (first | refine blk_drewN ?_ _ | refine blk_drew ?_ | refine blk_alloc ?_ _)); exact BK447.out) hb); have n4_ := Aside0.mk (blk_below (g := gb448) (o := .cells #[.int .i64 t443, .slice Ao15 t444.length co15] 36 (0, 0)) (by (with_reducible repeat (first | refine blk_drewN ?_ _ | refine blk_drew ?_ | refine blk_alloc ?_ _)); refine blk_put (cs := #[.int .i64 t443, .slice none 0 0]) ?_ 1 _ rfl; (with_reducible repeat (first | refine blk_drewN ?_ _ | refine blk_drew ?_ | refine blk_alloc ?_ _)); refine blk_put (cs := #[.int .i64 0, .slice none 0 0]) ?_ 0 _ rfl; (with_reducible repeat (first | refine blk_drewN ?_ _ | refine blk_drew ?_ | refine blk_alloc ?_ _)); refine blk_far ?_ NB448_447.out _; (with_reducible repeat (first | refine blk_drewN ?_ _ | refine blk_drew ?_ | refine blk_alloc ?_ _)); refine blk_far ?_ NB448_447.out _; (with_reducible repeat (first | refine blk_drewN ?_ _ | refine blk_drew ?_ | refine blk_alloc ?_ _)); exact BK448.out) hb); have n5_ := bs HB hb; clear HO442 HO446 BK447 BK448 HB; have HO442 := n0_; have HO446 := n1_; have HO452 := n2_; have BK447 := n3_; have BK448 := n4_; have HB := n5_; clear n0_ n1_ n2_ n3_ n4_ n5_; (try clear hb); (try clear ho0)) | ((with_reducible refine gate_dst (N := 5) rfl ?_); refine box_event ?hg (N := 5) ?hd (cs := #[.int .i64 0, .slice none 0 0]) (t := 32) ?hr ?_; (case hd => rfl); (case hg => rfl); (case hr => first | (go_simp; done) | (go_simp; rfl)); intro gb454 hg w17 hbox hb; have n0_ := Aside0.mk (Kd.S_below (by (with_reducible repeat (first | apply Kd.S_alloc | apply Kd.S_drewN | apply Kd.S_drew)); exact HO442.out) hb); have n1_ := rb HO446 hb; have n2_ := Aside0.mk (Kd.S_below (by (with_reducible repeat (first | apply Kd.S_alloc | apply Kd.S_drewN | apply Kd.S_drew)); exact HO452.out) hb); have n3_ := bb BK447 hb; have n4_ := bb BK448 hb; have n5_ := bs HB hb; have n6_ := Aside0.mk (hbox); have n7_ := gw hg HB; have n8_ := gw hg HB; have n9_ := nl hg BK447; have n10_ := ng hg BK447; have n11_ := nl hg BK448; have n12_ := ng hg BK448; clear HO442 HO446 HO452 BK447 BK448 HB; have HO442 := n0_; have HO446 := n1_; have HO452 := n2_; have BK447 := n3_; have BK448 := n4_; have HB := n5_; have BK454 := n6_; have GW454 := n7_; have GE454 := n8_; have NB447_454 := n9_; have NB454_447 := n10_; have NB448_454 := n11_; have NB454_448 := n12_; clear n0_ n1_ n2_ n3_ n4_ n5_ n6_ n7_ n8_ n9_ n10_ n11_ n12_; clear hb hbox hg; have hnb18 := NB454_447.out; have hnc18 := NB447_454.out; have hnb19 := NB454_448.out; have hnc19 := NB448_454.out; obtain ⟨hcz20_0, hcz20_1⟩ := c2 BK454; have hfz20_0 := blk_frozen BK454.out 0; have hfz20_1 := blk_frozen BK454.out 1; obtain ⟨Ao21, co21, eo21⟩ := Kd.S_slice HO452.out; subst eo21; obtain ⟨hcz22_0, hcz22_1⟩ := c2 BK447; have hfz22_0 := blk_frozen BK447.out 0; have hfz22_1 := blk_frozen BK447.out 1; obtain ⟨hcz23_0, hcz23_1⟩ := c2 BK448; have hfz23_0 := blk_frozen BK448.out 0; have hfz23_1 := blk_frozen BK448.out 1) | ((with_reducible refine gate_callee (f := 13) rfl ?_); refine goesL_ (some 29) rfl rfl Try.func13 (by kernel_rfl) rfl #[.agg #[.int .i64 t439, .slice Ao13 t440.length co13], .agg #[.int .i64 t443, .slice Ao15 t444.length co15]] rfl (by (try simp only [List.map_toArray, List.map_cons, List.map_nil]); first | done | rfl | (simp only [List.length_drop, List.length_take]; rfl)) ?_; (with_reducible refine (spec_AddRow.calls k t439 _ _ t440 t443 _ _ t444 t455 t456 t459 _ ?side1 ?side2 ?side3 ?side4 A6.out).mono ?_); (case side1 => refine (Kd.S_reads' (e := 36) (base := w.heap.size) (ok := fun k_ => ((some k_ ≠ (.slice Ao15 t444.length co15 : Value).ownBlock ∧ k_ ≠ gb448) ∧ some k_ ≠ (.slice Ao21 t450.length co21 : Value).ownBlock)) (n := t440.length) (c := co13) ?_).2.2; exact (by (with_reducible repeat (first | apply Kd.S_alloc | apply Kd.S_drewN | apply Kd.S_drew)); exact (Kd.S_mono (Kd.S_far (p := ⟨gb454, 1, none⟩) (Kd.S_far (p := ⟨gb454, 0, none⟩) (Kd.S_types HO442.out BK454.out (by decide)) (fun _ hk => hk.2) (.int .i64 t449)) (fun _ hk => hk.2) (.slice Ao21 t450.length co21)) (fun _ h_ => h_.1)))); (case side2 => exact (Kd.S_reads' HO442.out).2.1); (case side3 => refine (Kd.R_reads' (e := 3) (base := w.heap.size) (ok := fun k_ => True) (n := t444.length) (c := co15) ?_).2.2; exact (by (with_reducible repeat (first | apply Kd.R_alloc | apply Kd.R_drewN | apply Kd.R_drew)); exact (Kd.R_mono (Kd.R_far (p := ⟨gb454, 1, none⟩) (Kd.R_far (p := ⟨gb454, 0, none⟩) (Kd.R_types HO446.out BK454.out (by decide)) (fun _ hk => hk.2) (.int .i64 t449)) (fun _ hk => hk.2) (.slice Ao21 t450.length co21)) (fun _ h_ => h_.1)))); (case side4 => exact (Kd.R_reads' HO446.out).2.1); rintro e w24 ⟨v457, rfl, ho0, hb⟩; refine ⟨_, rfl, ?_⟩; have n0_ := Aside0.mk (Kd.S_elder' (by (with_reducible repeat (first | apply Kd.S_alloc | apply Kd.S_drewN | apply Kd.S_drew)); exact (Kd.S_mono (Kd.S_far (p := ⟨gb454, 1, none⟩) (Kd.S_far (p := ⟨gb454, 0, none⟩) (Kd.S_types HO442.out BK454.out (by decide)) (fun _ hk => hk.2) (.int .i64 t449)) (fun _ hk => hk.2) (.slice Ao21 t450.length co21)) (fun _ h_ => h_.1))) (Kd.S_base ho0) hb); have n1_ := Aside0.mk (Kd.R_below (by (with_reducible repeat (first | apply Kd.R_alloc | apply Kd.R_drewN | apply Kd.R_drew)); exact (Kd.R_mono (Kd.R_far (p := ⟨gb454, 1, none⟩) (Kd.R_far (p := ⟨gb454, 0, none⟩) (Kd.R_types HO446.out BK454.out (by decide)) (fun _ hk => hk.2) (.int .i64 t449)) (fun _ hk => hk.2) (.slice Ao21 t450.length co21)) (fun _ h_ => h_.1))) hb); have n2_ := Aside0.mk (Kd.S_elder' (by (with_reducible repeat (first | apply Kd.S_alloc | apply Kd.S_drewN | apply Kd.S_drew)); exact (Kd.S_mono (Kd.S_far (p := ⟨gb454, 1, none⟩) (Kd.S_far (p := ⟨gb454, 0, none⟩) (Kd.S_types HO452.out BK454.out (by decide)) (fun _ hk => hk.2) (.int .i64 t449)) (fun _ hk => hk.2) (.slice Ao21 t450.length co21)) (fun _ h_ => h_.1))) (Kd.S_base ho0) hb); have n3_ := Aside0.mk (Kd.S_lower (Kd.S_newB (Kd.S_new' (Kd.S_new' (Kd.S_new' ho0 (Kd.S_lt (by (with_reducible repeat (first | apply Kd.S_alloc | apply Kd.S_drewN | apply Kd.S_drew)); exact (Kd.S_mono (Kd.S_far (p := ⟨gb454, 1, none⟩) (Kd.S_far (p := ⟨gb454, 0, none⟩) (Kd.S_types HO442.out BK454.out (by decide)) (fun _ hk => hk.2) (.int .i64 t449)) (fun _ hk => hk.2) (.slice Ao21 t450.length co21)) (fun _ h_ => h_.1))))) (Kd.R_lt (by (with_reducible repeat (first | apply Kd.R_alloc | apply Kd.R_drewN | apply Kd.R_drew)); exact (Kd.R_mono (Kd.R_far (p := ⟨gb454, 1, none⟩) (Kd.R_far (p := ⟨gb454, 0, none⟩) (Kd.R_types HO446.out BK454.out (by decide)) (fun _ hk => hk.2) (.int .i64 t449)) (fun _ hk => hk.2) (.slice Ao21 t450.length co21)) (fun _ h_ => h_.1))))) (Kd.S_lt (by (with_reducible repeat (first | apply Kd.S_alloc | apply Kd.S_drewN | apply Kd.S_drew)); exact (Kd.S_mono (Kd.S_far (p := ⟨gb454, 1, none⟩) (Kd.S_far (p := ⟨gb454, 0, none⟩) (Kd.S_types HO452.out BK454.out (by decide)) (fun _ hk => hk.2) (.int .i64 t449)) (fun _ hk => hk.2) (.slice Ao21 t450.length co21)) (fun _ h_ => h_.1))))) (g := gb448) (o := .cells #[.int .i64 t443, .slice Ao15 t444.length co15] 36 (0, 0)) (mf BK448)) (below_size (ms HB))); have n4_ := bf BK447 hb; have n5_ := bf BK448 hb; have n6_ := Aside0.mk (blk_below (g := gb454) (o := .cells #[.int .i64 t449, .slice Ao21 t450.length co21] 32 (0, 0)) (by (with_reducible repeat (first | refine blk_drewN ?_ _ | refine blk_drew ?_ | refine blk_alloc ?_ _)); refine blk_put (cs := #[.int .i64 t449, .slice none 0 0]) ?_ 1 _ rfl; (with_reducible repeat (first | refine blk_drewN ?_ _ | refine blk_drew ?_ | refine blk_alloc ?_ _)); refine blk_put (cs := #[.int .i64 0, .slice none 0 0]) ?_ 0 _ rfl; (with_reducible repeat (first | refine blk_drewN ?_ _ | refine blk_drew ?_ | refine blk_alloc ?_ _)); exact BK454.out) hb); have n7_ := bs HB hb; clear HO442 HO446 HO452 BK447 BK448 BK454 HB; have HO442 := n0_; have HO446 := n1_; have HO452 := n2_; have HO458 := n3_; have BK447 := n4_; have BK448 := n5_; have BK454 := n6_; have HB := n7_; clear n0_ n1_ n2_ n3_ n4_ n5_ n6_ n7_; (try clear hb); (try clear ho0)) | ((with_reducible refine gate_dst (N := 7) rfl ?_); refine box_event ?hg (N := 7) ?hd (cs := #[.int .i64 0, .slice none 0 0]) (t := 32) ?hr ?_; (case hd => rfl); (case hg => rfl); (case hr => first | (go_simp; done) | (go_simp; rfl)); intro gb460 hg w25 hbox hb; have n0_ := Aside0.mk (Kd.S_below (by (with_reducible repeat (first | apply Kd.S_alloc | apply Kd.S_drewN | apply Kd.S_drew)); exact HO442.out) hb); have n1_ := rb HO446 hb; have n2_ := Aside0.mk (Kd.S_below (by (with_reducible repeat (first | apply Kd.S_alloc | apply Kd.S_drewN | apply Kd.S_drew)); exact HO452.out) hb); have n3_ := Aside0.mk (Kd.S_below (by (with_reducible repeat (first | apply Kd.S_alloc | apply Kd.S_drewN | apply Kd.S_drew)); exact HO458.out) hb); have n4_ := bb BK447 hb; have n5_ := bb BK448 hb; have n6_ := bb BK454 hb; have n7_ := bs HB hb; have n8_ := Aside0.mk (hbox); have n9_ := gw hg HB; have n10_ := gw hg HB; have n11_ := nl hg BK447; have n12_ := ng hg BK447; have n13_ := nl hg BK448; have n14_ := ng hg BK448; have n15_ := nl hg BK454; have n16_ := ng hg BK454; clear HO442 HO446 HO452 HO458 BK447 BK448 BK454 HB; have HO442 := n0_; have HO446 := n1_; have HO452 := n2_; have HO458 := n3_; have BK447 := n4_; have BK448 := n5_; have BK454 := n6_; have HB := n7_; have BK460 := n8_; have GW460 := n9_; have GE460 := n10_; have NB447_460 := n11_; have NB460_447 := n12_; have NB448_460 := n13_; have NB460_448 := n14_; have NB454_460 := n15_; have NB460_454 := n16_; clear n0_ n1_ n2_ n3_ n4_ n5_ n6_ n7_ n8_ n9_ n10_ n11_ n12_ n13_ n14_ n15_ n16_; clear hb hbox hg; have hnb26 := NB460_447.out; have hnc26 := NB447_460.out; have hnb27 := NB460_448.out; have hnc27 := NB448_460.out; have hnb28 := NB460_454.out; have hnc28 := NB454_460.out; obtain ⟨hcz29_0, hcz29_1⟩ := c2 BK460; have hfz29_0 := blk_frozen BK460.out 0; have hfz29_1 := blk_frozen BK460.out 1; obtain ⟨Ao30, co30, eo30⟩ := Kd.S_slice HO458.out; subst eo30))
  (try simp only [Act.put, List.setIfInBounds_toArray, List.set_cons_zero, List.set_cons_succ])
  go_cut [47] (fun v47 wc => ∃ (kq : Nat) (x47_6 : Bool), v47 = .bool x47_6 ∧ Aside0 (laws_FnSystems.j0 kq l0 t453 x47_6 t439 t440 t443 t444 t449 t450 = some r) ∧ Aside0 (kq ≤ k) ∧ Aside0 (Kd.S k36 36 wc w.heap.size (fun k_ => some k_ ≠ ((.slice Ao15 t444.length co15) : Value).ownBlock ∧ some k_ ≠ ((.slice Ao21 t450.length co21) : Value).ownBlock ∧ some k_ ≠ ((.slice Ao30 t456.length co30) : Value).ownBlock ∧ k_ ≠ gb448) (.slice Ao13 t440.length co13) t440) ∧ Aside0 (Kd.R (Kd.int .i64) 3 wc w.heap.size (fun _ => True) (.slice Ao15 t444.length co15) t444) ∧ Aside0 (Kd.S k36 36 wc w.heap.size (fun k_ => some k_ ≠ ((.slice Ao13 t440.length co13) : Value).ownBlock ∧ some k_ ≠ ((.slice Ao15 t444.length co15) : Value).ownBlock ∧ some k_ ≠ ((.slice Ao30 t456.length co30) : Value).ownBlock ∧ k_ ≠ gb448) (.slice Ao21 t450.length co21) t450) ∧ Aside0 (Kd.S k36 36 wc w.heap.size (fun k_ => some k_ ≠ ((.slice Ao13 t440.length co13) : Value).ownBlock ∧ some k_ ≠ ((.slice Ao15 t444.length co15) : Value).ownBlock ∧ some k_ ≠ ((.slice Ao21 t450.length co21) : Value).ownBlock ∧ k_ ≠ gb448) (.slice Ao30 t456.length co30) t456) ∧ Aside0 (wc.heap[gb447]? = some (.cells #[.int .i64 t439, (.slice Ao13 t440.length co13)] 32 (0, 0))) ∧ Aside0 (wc.heap[gb448]? = some (.cells #[.int .i64 t443, (.slice Ao15 t444.length co15)] 36 (0, 0))) ∧ Aside0 (wc.heap[gb454]? = some (.cells #[.int .i64 t449, (.slice Ao21 t450.length co21)] 32 (0, 0))) ∧ Aside0 (wc.heap[gb460]? = some (.cells #[.int .i64 t455, (.slice Ao30 t456.length co30)] 32 (0, 0))) ∧ Aside0 (Below w.heap.size w wc))
  case first =>
   have H := HC7.out
   clear HC7
   by_cases c31 : (t453 != t459) = true
   ·rw [if_pos c31] at H
    have c31b0 : (t453 != t459) = true := c31
    (try (have c31b1 : decide (t453 = t459) = false := by simpa using c31))
    (try (have c31b2 : (t453 == t459) = false := by simpa using c31))
    (try (have c31b3 : ¬ (t453 = t459) := by simpa using c31))
    clear c31
    (first | rw [c31b0] | (simp only [i64_w, i32_w]; rw [c31b0]) | skip)
    have H' := Aside0.mk H
    clear H
    try go_wp2
    have n0_ : Aside0 (Kd.S k36 36 ((w25.setCell ⟨gb460, 0, none⟩ (.int .i64 t455)).setCell ⟨gb460, 1, none⟩ (.slice Ao30 t456.length co30)) w.heap.size (fun k_ => some k_ ≠ (.slice Ao15 t444.length co15 : Value).ownBlock ∧ some k_ ≠ (.slice Ao21 t450.length co21 : Value).ownBlock ∧ some k_ ≠ (.slice Ao30 t456.length co30 : Value).ownBlock ∧ k_ ≠ gb448) (.slice Ao13 t440.length co13) t440) := ⟨by (with_reducible repeat (first | apply Kd.S_alloc | apply Kd.S_drewN | apply Kd.S_drew)); exact Kd.S_mono (Kd.S_far (p := ⟨gb460, 1, none⟩) (Kd.S_far (p := ⟨gb460, 0, none⟩) (Kd.S_types HO442.out BK460.out (by decide)) (fun _ hk => hk.2) (.int .i64 t455)) (fun _ hk => hk.2) (.slice Ao30 t456.length co30)) (fun _ hk => ⟨hk.1.1.1.1, ⟨hk.1.1.2, ⟨hk.1.2, hk.1.1.1.2⟩⟩⟩)⟩
    have n1_ : Aside0 (Kd.R (Kd.int .i64) 3 ((w25.setCell ⟨gb460, 0, none⟩ (.int .i64 t455)).setCell ⟨gb460, 1, none⟩ (.slice Ao30 t456.length co30)) w.heap.size (fun _ => True) (.slice Ao15 t444.length co15) t444) := ⟨by (with_reducible repeat (first | apply Kd.R_alloc | apply Kd.R_drewN | apply Kd.R_drew)); exact Kd.R_mono (Kd.R_far (p := ⟨gb460, 1, none⟩) (Kd.R_far (p := ⟨gb460, 0, none⟩) (Kd.R_types HO446.out BK460.out (by decide)) (fun _ hk => hk.2) (.int .i64 t455)) (fun _ hk => hk.2) (.slice Ao30 t456.length co30)) (fun _ hk => trivial)⟩
    have n2_ : Aside0 (Kd.S k36 36 ((w25.setCell ⟨gb460, 0, none⟩ (.int .i64 t455)).setCell ⟨gb460, 1, none⟩ (.slice Ao30 t456.length co30)) w.heap.size (fun k_ => some k_ ≠ (.slice Ao13 t440.length co13 : Value).ownBlock ∧ some k_ ≠ (.slice Ao15 t444.length co15 : Value).ownBlock ∧ some k_ ≠ (.slice Ao30 t456.length co30 : Value).ownBlock ∧ k_ ≠ gb448) (.slice Ao21 t450.length co21) t450) := ⟨by (with_reducible repeat (first | apply Kd.S_alloc | apply Kd.S_drewN | apply Kd.S_drew)); exact Kd.S_mono (Kd.S_far (p := ⟨gb460, 1, none⟩) (Kd.S_far (p := ⟨gb460, 0, none⟩) (Kd.S_types HO452.out BK460.out (by decide)) (fun _ hk => hk.2) (.int .i64 t455)) (fun _ hk => hk.2) (.slice Ao30 t456.length co30)) (fun _ hk => ⟨hk.1.1.1.1.2, ⟨hk.1.1.1.2, ⟨hk.1.2, hk.1.1.2⟩⟩⟩)⟩
    have n3_ : Aside0 (Kd.S k36 36 ((w25.setCell ⟨gb460, 0, none⟩ (.int .i64 t455)).setCell ⟨gb460, 1, none⟩ (.slice Ao30 t456.length co30)) w.heap.size (fun k_ => some k_ ≠ (.slice Ao13 t440.length co13 : Value).ownBlock ∧ some k_ ≠ (.slice Ao15 t444.length co15 : Value).ownBlock ∧ some k_ ≠ (.slice Ao21 t450.length co21 : Value).ownBlock ∧ k_ ≠ gb448) (.slice Ao30 t456.length co30) t456) := ⟨by (with_reducible repeat (first | apply Kd.S_alloc | apply Kd.S_drewN | apply Kd.S_drew)); exact Kd.S_mono (Kd.S_far (p := ⟨gb460, 1, none⟩) (Kd.S_far (p := ⟨gb460, 0, none⟩) (Kd.S_types HO458.out BK460.out (by decide)) (fun _ hk => hk.2) (.int .i64 t455)) (fun _ hk => hk.2) (.slice Ao30 t456.length co30)) (fun _ hk => ⟨hk.1.1.1.1.2, ⟨hk.1.1.1.2, ⟨hk.1.1.2, hk.1.2⟩⟩⟩)⟩
    have n4_ : Aside0 (((w25.setCell ⟨gb460, 0, none⟩ (.int .i64 t455)).setCell ⟨gb460, 1, none⟩ (.slice Ao30 t456.length co30)).heap[gb447]? = some (.cells #[.int .i64 t439, .slice Ao13 t440.length co13] 32 (0, 0))) := ⟨by (with_reducible repeat (first | refine blk_drewN ?_ _ | refine blk_drew ?_ | refine blk_alloc ?_ _)); refine blk_far ?_ NB447_460.out _; (with_reducible repeat (first | refine blk_drewN ?_ _ | refine blk_drew ?_ | refine blk_alloc ?_ _)); refine blk_far ?_ NB447_460.out _; (with_reducible repeat (first | refine blk_drewN ?_ _ | refine blk_drew ?_ | refine blk_alloc ?_ _)); exact BK447.out⟩
    have n5_ : Aside0 (((w25.setCell ⟨gb460, 0, none⟩ (.int .i64 t455)).setCell ⟨gb460, 1, none⟩ (.slice Ao30 t456.length co30)).heap[gb448]? = some (.cells #[.int .i64 t443, .slice Ao15 t444.length co15] 36 (0, 0))) := ⟨by (with_reducible repeat (first | refine blk_drewN ?_ _ | refine blk_drew ?_ | refine blk_alloc ?_ _)); refine blk_far ?_ NB448_460.out _; (with_reducible repeat (first | refine blk_drewN ?_ _ | refine blk_drew ?_ | refine blk_alloc ?_ _)); refine blk_far ?_ NB448_460.out _; (with_reducible repeat (first | refine blk_drewN ?_ _ | refine blk_drew ?_ | refine blk_alloc ?_ _)); exact BK448.out⟩
    have n6_ : Aside0 (((w25.setCell ⟨gb460, 0, none⟩ (.int .i64 t455)).setCell ⟨gb460, 1, none⟩ (.slice Ao30 t456.length co30)).heap[gb454]? = some (.cells #[.int .i64 t449, .slice Ao21 t450.length co21] 32 (0, 0))) := ⟨by (with_reducible repeat (first | refine blk_drewN ?_ _ | refine blk_drew ?_ | refine blk_alloc ?_ _)); refine blk_far ?_ NB454_460.out _; (with_reducible repeat (first | refine blk_drewN ?_ _ | refine blk_drew ?_ | refine blk_alloc ?_ _)); refine blk_far ?_ NB454_460.out _; (with_reducible repeat (first | refine blk_drewN ?_ _ | refine blk_drew ?_ | refine blk_alloc ?_ _)); exact BK454.out⟩
    have n7_ : Aside0 (((w25.setCell ⟨gb460, 0, none⟩ (.int .i64 t455)).setCell ⟨gb460, 1, none⟩ (.slice Ao30 t456.length co30)).heap[gb460]? = some (.cells #[.int .i64 t455, .slice Ao30 t456.length co30] 32 (0, 0))) := ⟨by (with_reducible repeat (first | refine blk_drewN ?_ _ | refine blk_drew ?_ | refine blk_alloc ?_ _)); refine blk_put (cs := #[.int .i64 t455, .slice none 0 0]) ?_ 1 _ rfl; (with_reducible repeat (first | refine blk_drewN ?_ _ | refine blk_drew ?_ | refine blk_alloc ?_ _)); refine blk_put (cs := #[.int .i64 0, .slice none 0 0]) ?_ 0 _ rfl; (with_reducible repeat (first | refine blk_drewN ?_ _ | refine blk_drew ?_ | refine blk_alloc ?_ _)); exact BK460.out⟩
    have n8_ : Aside0 (Below w.heap.size w ((w25.setCell ⟨gb460, 0, none⟩ (.int .i64 t455)).setCell ⟨gb460, 1, none⟩ (.slice Ao30 t456.length co30))) := ⟨ms HB⟩
    (try clear HO442)
    (try clear HO446)
    (try clear HO452)
    (try clear HO458)
    (try clear BK447)
    (try clear BK448)
    (try clear BK454)
    (try clear BK460)
    (try clear HB)
    generalize ((w25.setCell ⟨gb460, 0, none⟩ (.int .i64 t455)).setCell ⟨gb460, 1, none⟩ (.slice Ao30 t456.length co30)) = w32 at n0_ n1_ n2_ n3_ n4_ n5_ n6_ n7_ n8_ ⊢
    have HO442 := n0_
    have HO446 := n1_
    have HO452 := n2_
    have HO458 := n3_
    have BK447 := n4_
    have BK448 := n5_
    have BK454 := n6_
    have BK460 := n7_
    have HB := n8_
    clear n0_ n1_ n2_ n3_ n4_ n5_ n6_ n7_ n8_
    replace HO442 := Aside0.mk (Kd.S_drew HO442.out)
    replace HO446 := Aside0.mk (Kd.R_drew HO446.out)
    replace HO452 := Aside0.mk (Kd.S_drew HO452.out)
    replace HO458 := Aside0.mk (Kd.S_drew HO458.out)
    replace BK447 := Aside0.mk (blk_drew BK447.out)
    replace BK448 := Aside0.mk (blk_drew BK448.out)
    replace BK454 := Aside0.mk (blk_drew BK454.out)
    replace BK460 := Aside0.mk (blk_drew BK460.out)
    replace HB := Aside0.mk (below_drew1 HB.out)
    refine start_ (n := 16) (S := fun w' => True) (ds := []) #[false, false, false, false, false, false, false, false, false, false, false, false, false, false, false, false] (by kernel_rfl) rfl rfl trivial (fun hHeld => ?_); refine with_tabW laws_FnSystems.tab6 laws_FnSystems.bits6 (fun HT_ HW_ => ?_)
    generalize w32.drew = w33 at HO442 HO446 HO452 HO458 BK447 BK448 BK454 BK460 HB hHeld ⊢
    refine pure_ (i := 0) (N := some 32) (v := ?_) (a' := ?_) #[true, false, false, false, false, false, false, false, false, false, false, false, false, false, false, false] rfl rfl (any_of HT_.out (by kernel_rfl)) (fun _ _ _ h => h) (Or.inl ⟨by rfl, ?_⟩) ?_ ?_
    rotate_left
    ·intro w'
     go_simp
     with_reducible rfl
    rotate_left
    ·simp only [Act.put, List.setIfInBounds_toArray, List.set_cons_zero, List.set_cons_succ, i64_w, i32_w]
     rfl
    refine pure_ (i := 1) (N := some 33) (v := ?_) (a' := ?_) #[true, true, false, false, false, false, false, false, false, false, false, false, false, false, false, false] rfl rfl (any_of HT_.out (by kernel_rfl)) (fun _ _ _ h => h) (Or.inl ⟨by rfl, ?_⟩) ?_ ?_
    rotate_left
    ·intro w'
     go_simp
     with_reducible rfl
    rotate_left
    ·simp only [Act.put, List.setIfInBounds_toArray, List.set_cons_zero, List.set_cons_succ, i64_w, i32_w]
     rfl
    refine pure_ (i := 2) (N := some 34) (v := ?_) (a' := ?_) #[true, true, true, false, false, false, false, false, false, false, false, false, false, false, false, false] rfl rfl (any_of HT_.out (by kernel_rfl)) (fun _ _ _ h => h) (Or.inl ⟨by rfl, ?_⟩) ?_ ?_
    rotate_left
    ·intro w'
     go_simp
     with_reducible rfl
    rotate_left
    ·simp only [Act.put, List.setIfInBounds_toArray, List.set_cons_zero, List.set_cons_succ, i64_w, i32_w]
     rfl
    refine pure_ (i := 3) (N := some 35) (v := ?_) (a' := ?_) #[true, true, true, true, false, false, false, false, false, false, false, false, false, false, false, false] rfl rfl (any_of HT_.out (by kernel_rfl)) (fun _ _ _ h => h) (Or.inl ⟨by rfl, ?_⟩) ?_ ?_
    rotate_left
    ·intro w'
     go_simp
     with_reducible rfl
    rotate_left
    ·simp only [Act.put, List.setIfInBounds_toArray, List.set_cons_zero, List.set_cons_succ, i64_w, i32_w]
     rfl
    refine pure_ (i := 4) (N := some 36) (v := undef) (a' := ?_) #[true, true, true, true, true, false, false, false, false, false, false, false, false, false, false, false] rfl rfl (any_of HT_.out (by kernel_rfl)) (fun _ _ _ h => h) (Or.inr ⟨by rfl, rfl⟩) ?_ ?_
    rotate_left
    ·simp only [Act.put, List.setIfInBounds_toArray, List.set_cons_zero, List.set_cons_succ, i64_w, i32_w]
     rfl
    refine pure_ (i := 5) (N := some 37) (v := undef) (a' := ?_) #[true, true, true, true, true, true, false, false, false, false, false, false, false, false, false, false] rfl rfl (any_of HT_.out (by kernel_rfl)) (fun _ _ _ h => h) (Or.inr ⟨by rfl, rfl⟩) ?_ ?_
    rotate_left
    ·simp only [Act.put, List.setIfInBounds_toArray, List.set_cons_zero, List.set_cons_succ, i64_w, i32_w]
     rfl
    refine pure_ (i := 6) (N := some 38) (v := undef) (a' := ?_) #[true, true, true, true, true, true, true, false, false, false, false, false, false, false, false, false] rfl rfl (any_of HT_.out (by kernel_rfl)) (fun _ _ _ h => h) (Or.inr ⟨by rfl, rfl⟩) ?_ ?_
    rotate_left
    ·simp only [Act.put, List.setIfInBounds_toArray, List.set_cons_zero, List.set_cons_succ, i64_w, i32_w]
     rfl
    refine pure_ (i := 7) (N := some 39) (v := undef) (a' := ?_) #[true, true, true, true, true, true, true, true, false, false, false, false, false, false, false, false] rfl rfl (any_of HT_.out (by kernel_rfl)) (fun _ _ _ h => h) (Or.inr ⟨by rfl, rfl⟩) ?_ ?_
    rotate_left
    ·simp only [Act.put, List.setIfInBounds_toArray, List.set_cons_zero, List.set_cons_succ, i64_w, i32_w]
     rfl
    refine pure_ (i := 8) (N := some 40) (v := ?_) (a' := ?_) #[true, true, true, true, true, true, true, true, true, false, false, false, false, false, false, false] rfl rfl (any_of HT_.out (by kernel_rfl)) (fun _ _ _ h => h) (Or.inl ⟨by rfl, ?_⟩) ?_ ?_
    rotate_left
    ·intro w'
     go_simp
     with_reducible rfl
    rotate_left
    ·simp only [Act.put, List.setIfInBounds_toArray, List.set_cons_zero, List.set_cons_succ, i64_w, i32_w]
     rfl
    refine pure_ (i := 9) (N := some 41) (v := ?_) (a' := ?_) #[true, true, true, true, true, true, true, true, true, true, false, false, false, false, false, false] rfl rfl (any_of HT_.out (by kernel_rfl)) (fun _ _ _ h => h) (Or.inl ⟨by rfl, ?_⟩) ?_ ?_
    rotate_left
    ·intro w'
     go_simp
     with_reducible rfl
    rotate_left
    ·simp only [Act.put, List.setIfInBounds_toArray, List.set_cons_zero, List.set_cons_succ, i64_w, i32_w]
     rfl
    refine pure_ (i := 10) (N := some 42) (v := undef) (a' := ?_) #[true, true, true, true, true, true, true, true, true, true, true, false, false, false, false, false] rfl rfl (any_of HT_.out (by kernel_rfl)) (fun _ _ _ h => h) (Or.inr ⟨by rfl, rfl⟩) ?_ ?_
    rotate_left
    ·simp only [Act.put, List.setIfInBounds_toArray, List.set_cons_zero, List.set_cons_succ, i64_w, i32_w]
     rfl
    refine pure_ (i := 11) (N := some 43) (v := undef) (a' := ?_) #[true, true, true, true, true, true, true, true, true, true, true, true, false, false, false, false] rfl rfl (any_of HT_.out (by kernel_rfl)) (fun _ _ _ h => h) (Or.inr ⟨by rfl, rfl⟩) ?_ ?_
    rotate_left
    ·simp only [Act.put, List.setIfInBounds_toArray, List.set_cons_zero, List.set_cons_succ, i64_w, i32_w]
     rfl
    refine pure_ (i := 12) (N := some 44) (v := undef) (a' := ?_) #[true, true, true, true, true, true, true, true, true, true, true, true, true, false, false, false] rfl rfl (any_of HT_.out (by kernel_rfl)) (fun _ _ _ h => h) (Or.inr ⟨by rfl, rfl⟩) ?_ ?_
    rotate_left
    ·simp only [Act.put, List.setIfInBounds_toArray, List.set_cons_zero, List.set_cons_succ, i64_w, i32_w]
     rfl
    refine pure_ (i := 13) (N := some 45) (v := undef) (a' := ?_) #[true, true, true, true, true, true, true, true, true, true, true, true, true, true, false, false] rfl rfl (any_of HT_.out (by kernel_rfl)) (fun _ _ _ h => h) (Or.inr ⟨by rfl, rfl⟩) ?_ ?_
    rotate_left
    ·simp only [Act.put, List.setIfInBounds_toArray, List.set_cons_zero, List.set_cons_succ, i64_w, i32_w]
     rfl
    refine pure_ (i := 14) (N := some 46) (v := undef) (a' := ?_) #[true, true, true, true, true, true, true, true, true, true, true, true, true, true, true, false] rfl rfl (any_of HT_.out (by kernel_rfl)) (fun _ _ _ h => h) (Or.inr ⟨by rfl, rfl⟩) ?_ ?_
    rotate_left
    ·simp only [Act.put, List.setIfInBounds_toArray, List.set_cons_zero, List.set_cons_succ, i64_w, i32_w]
     rfl
    refine pure_ (i := 15) (N := some 47) (v := ?_) (a' := ?_) #[true, true, true, true, true, true, true, true, true, true, true, true, true, true, true, true] rfl rfl (any_of HT_.out (by kernel_rfl)) (fun _ _ _ h => h) (Or.inl ⟨by rfl, ?_⟩) ?_ ?_
    rotate_left
    ·intro w'
     go_simp
     with_reducible rfl
    rotate_left
    ·simp only [Act.put, List.setIfInBounds_toArray, List.set_cons_zero, List.set_cons_succ, i64_w, i32_w]
     rfl
    refine done_ (done_of HT_.out (by kernel_rfl)) ?_
    try go_wp2
    go_meet
    case rel => exact ⟨_, (true), (by first | rfl | (simp; done) | (simp [*]; done)), H', ⟨by first | omega | exact Nat.le_refl _⟩, ⟨by (with_reducible repeat (first | apply Kd.S_alloc | apply Kd.S_drewN | apply Kd.S_drew)); exact HO442.out⟩, ⟨by (with_reducible repeat (first | apply Kd.R_alloc | apply Kd.R_drewN | apply Kd.R_drew)); exact HO446.out⟩, ⟨by (with_reducible repeat (first | apply Kd.S_alloc | apply Kd.S_drewN | apply Kd.S_drew)); exact HO452.out⟩, ⟨by (with_reducible repeat (first | apply Kd.S_alloc | apply Kd.S_drewN | apply Kd.S_drew)); exact HO458.out⟩, ⟨by (with_reducible repeat (first | refine blk_drewN ?_ _ | refine blk_drew ?_ | refine blk_alloc ?_ _)); exact BK447.out⟩, ⟨by (with_reducible repeat (first | refine blk_drewN ?_ _ | refine blk_drew ?_ | refine blk_alloc ?_ _)); exact BK448.out⟩, ⟨by (with_reducible repeat (first | refine blk_drewN ?_ _ | refine blk_drew ?_ | refine blk_alloc ?_ _)); exact BK454.out⟩, ⟨by (with_reducible repeat (first | refine blk_drewN ?_ _ | refine blk_drew ?_ | refine blk_alloc ?_ _)); exact BK460.out⟩, ⟨ms HB⟩⟩
   ·rw [if_neg c31] at H
    have c31b0 : (t453 != t459) = false := by simpa using c31
    (try (have c31b1 : decide (t453 = t459) = true := by simpa using c31))
    (try (have c31b2 : (t453 == t459) = true := by simpa using c31))
    clear c31
    (first | rw [c31b0] | (simp only [i64_w, i32_w]; rw [c31b0]) | skip)
    replace H := Option.bind_eq_some_iff.mp H
    obtain ⟨t461, A340, H⟩ := H
    replace H : (if t461 = true then ((impl_IsValidSystem.f k t439 t440).bind fun t462 => ((spec_IsValidSystem.f k t439 t440).bind fun t463 => (laws_FnSystems.j0 k l0 t453 (t462 != t463) t439 t440 t443 t444 t449 t450))) else (laws_FnSystems.j0 k l0 t453 true t439 t440 t443 t444 t449 t450)) = some r := H
    have A34 := Aside0.mk A340
    clear A340
    by_cases c35 : t461 = true
    ·subst c35
     have H1 : ((impl_IsValidSystem.f k t439 t440).bind fun t462 => ((spec_IsValidSystem.f k t439 t440).bind fun t463 => (laws_FnSystems.j0 k l0 t453 (t462 != t463) t439 t440 t443 t444 t449 t450))) = some r := by rw [if_pos rfl] at H; exact H
     clear H
     have H := H1
     clear H1
     replace H := Option.bind_eq_some_iff.mp H
     obtain ⟨t462, A360, H⟩ := H
     replace H : ((spec_IsValidSystem.f k t439 t440).bind fun t463 => (laws_FnSystems.j0 k l0 t453 (t462 != t463) t439 t440 t443 t444 t449 t450)) = some r := H
     have A36 := Aside0.mk A360
     clear A360
     replace H := Option.bind_eq_some_iff.mp H
     obtain ⟨t463, A370, H⟩ := H
     replace H : (laws_FnSystems.j0 k l0 t453 (t462 != t463) t439 t440 t443 t444 t449 t450) = some r := H
     have A37 := Aside0.mk A370
     clear A370
     have H' := Aside0.mk H
     clear H
     try go_wp2
     have n0_ : Aside0 (Kd.S k36 36 ((w25.setCell ⟨gb460, 0, none⟩ (.int .i64 t455)).setCell ⟨gb460, 1, none⟩ (.slice Ao30 t456.length co30)) w.heap.size (fun k_ => some k_ ≠ (.slice Ao15 t444.length co15 : Value).ownBlock ∧ some k_ ≠ (.slice Ao21 t450.length co21 : Value).ownBlock ∧ some k_ ≠ (.slice Ao30 t456.length co30 : Value).ownBlock ∧ k_ ≠ gb448) (.slice Ao13 t440.length co13) t440) := ⟨by (with_reducible repeat (first | apply Kd.S_alloc | apply Kd.S_drewN | apply Kd.S_drew)); exact Kd.S_mono (Kd.S_far (p := ⟨gb460, 1, none⟩) (Kd.S_far (p := ⟨gb460, 0, none⟩) (Kd.S_types HO442.out BK460.out (by decide)) (fun _ hk => hk.2) (.int .i64 t455)) (fun _ hk => hk.2) (.slice Ao30 t456.length co30)) (fun _ hk => ⟨hk.1.1.1.1, ⟨hk.1.1.2, ⟨hk.1.2, hk.1.1.1.2⟩⟩⟩)⟩
     have n1_ : Aside0 (Kd.R (Kd.int .i64) 3 ((w25.setCell ⟨gb460, 0, none⟩ (.int .i64 t455)).setCell ⟨gb460, 1, none⟩ (.slice Ao30 t456.length co30)) w.heap.size (fun _ => True) (.slice Ao15 t444.length co15) t444) := ⟨by (with_reducible repeat (first | apply Kd.R_alloc | apply Kd.R_drewN | apply Kd.R_drew)); exact Kd.R_mono (Kd.R_far (p := ⟨gb460, 1, none⟩) (Kd.R_far (p := ⟨gb460, 0, none⟩) (Kd.R_types HO446.out BK460.out (by decide)) (fun _ hk => hk.2) (.int .i64 t455)) (fun _ hk => hk.2) (.slice Ao30 t456.length co30)) (fun _ hk => trivial)⟩
     have n2_ : Aside0 (Kd.S k36 36 ((w25.setCell ⟨gb460, 0, none⟩ (.int .i64 t455)).setCell ⟨gb460, 1, none⟩ (.slice Ao30 t456.length co30)) w.heap.size (fun k_ => some k_ ≠ (.slice Ao13 t440.length co13 : Value).ownBlock ∧ some k_ ≠ (.slice Ao15 t444.length co15 : Value).ownBlock ∧ some k_ ≠ (.slice Ao30 t456.length co30 : Value).ownBlock ∧ k_ ≠ gb448) (.slice Ao21 t450.length co21) t450) := ⟨by (with_reducible repeat (first | apply Kd.S_alloc | apply Kd.S_drewN | apply Kd.S_drew)); exact Kd.S_mono (Kd.S_far (p := ⟨gb460, 1, none⟩) (Kd.S_far (p := ⟨gb460, 0, none⟩) (Kd.S_types HO452.out BK460.out (by decide)) (fun _ hk => hk.2) (.int .i64 t455)) (fun _ hk => hk.2) (.slice Ao30 t456.length co30)) (fun _ hk => ⟨hk.1.1.1.1.2, ⟨hk.1.1.1.2, ⟨hk.1.2, hk.1.1.2⟩⟩⟩)⟩
     have n3_ : Aside0 (Kd.S k36 36 ((w25.setCell ⟨gb460, 0, none⟩ (.int .i64 t455)).setCell ⟨gb460, 1, none⟩ (.slice Ao30 t456.length co30)) w.heap.size (fun k_ => some k_ ≠ (.slice Ao13 t440.length co13 : Value).ownBlock ∧ some k_ ≠ (.slice Ao15 t444.length co15 : Value).ownBlock ∧ some k_ ≠ (.slice Ao21 t450.length co21 : Value).ownBlock ∧ k_ ≠ gb448) (.slice Ao30 t456.length co30) t456) := ⟨by (with_reducible repeat (first | apply Kd.S_alloc | apply Kd.S_drewN | apply Kd.S_drew)); exact Kd.S_mono (Kd.S_far (p := ⟨gb460, 1, none⟩) (Kd.S_far (p := ⟨gb460, 0, none⟩) (Kd.S_types HO458.out BK460.out (by decide)) (fun _ hk => hk.2) (.int .i64 t455)) (fun _ hk => hk.2) (.slice Ao30 t456.length co30)) (fun _ hk => ⟨hk.1.1.1.1.2, ⟨hk.1.1.1.2, ⟨hk.1.1.2, hk.1.2⟩⟩⟩)⟩
     have n4_ : Aside0 (((w25.setCell ⟨gb460, 0, none⟩ (.int .i64 t455)).setCell ⟨gb460, 1, none⟩ (.slice Ao30 t456.length co30)).heap[gb447]? = some (.cells #[.int .i64 t439, .slice Ao13 t440.length co13] 32 (0, 0))) := ⟨by (with_reducible repeat (first | refine blk_drewN ?_ _ | refine blk_drew ?_ | refine blk_alloc ?_ _)); refine blk_far ?_ NB447_460.out _; (with_reducible repeat (first | refine blk_drewN ?_ _ | refine blk_drew ?_ | refine blk_alloc ?_ _)); refine blk_far ?_ NB447_460.out _; (with_reducible repeat (first | refine blk_drewN ?_ _ | refine blk_drew ?_ | refine blk_alloc ?_ _)); exact BK447.out⟩
     have n5_ : Aside0 (((w25.setCell ⟨gb460, 0, none⟩ (.int .i64 t455)).setCell ⟨gb460, 1, none⟩ (.slice Ao30 t456.length co30)).heap[gb448]? = some (.cells #[.int .i64 t443, .slice Ao15 t444.length co15] 36 (0, 0))) := ⟨by (with_reducible repeat (first | refine blk_drewN ?_ _ | refine blk_drew ?_ | refine blk_alloc ?_ _)); refine blk_far ?_ NB448_460.out _; (with_reducible repeat (first | refine blk_drewN ?_ _ | refine blk_drew ?_ | refine blk_alloc ?_ _)); refine blk_far ?_ NB448_460.out _; (with_reducible repeat (first | refine blk_drewN ?_ _ | refine blk_drew ?_ | refine blk_alloc ?_ _)); exact BK448.out⟩
     have n6_ : Aside0 (((w25.setCell ⟨gb460, 0, none⟩ (.int .i64 t455)).setCell ⟨gb460, 1, none⟩ (.slice Ao30 t456.length co30)).heap[gb454]? = some (.cells #[.int .i64 t449, .slice Ao21 t450.length co21] 32 (0, 0))) := ⟨by (with_reducible repeat (first | refine blk_drewN ?_ _ | refine blk_drew ?_ | refine blk_alloc ?_ _)); refine blk_far ?_ NB454_460.out _; (with_reducible repeat (first | refine blk_drewN ?_ _ | refine blk_drew ?_ | refine blk_alloc ?_ _)); refine blk_far ?_ NB454_460.out _; (with_reducible repeat (first | refine blk_drewN ?_ _ | refine blk_drew ?_ | refine blk_alloc ?_ _)); exact BK454.out⟩
     have n7_ : Aside0 (((w25.setCell ⟨gb460, 0, none⟩ (.int .i64 t455)).setCell ⟨gb460, 1, none⟩ (.slice Ao30 t456.length co30)).heap[gb460]? = some (.cells #[.int .i64 t455, .slice Ao30 t456.length co30] 32 (0, 0))) := ⟨by (with_reducible repeat (first | refine blk_drewN ?_ _ | refine blk_drew ?_ | refine blk_alloc ?_ _)); refine blk_put (cs := #[.int .i64 t455, .slice none 0 0]) ?_ 1 _ rfl; (with_reducible repeat (first | refine blk_drewN ?_ _ | refine blk_drew ?_ | refine blk_alloc ?_ _)); refine blk_put (cs := #[.int .i64 0, .slice none 0 0]) ?_ 0 _ rfl; (with_reducible repeat (first | refine blk_drewN ?_ _ | refine blk_drew ?_ | refine blk_alloc ?_ _)); exact BK460.out⟩
     have n8_ : Aside0 (Below w.heap.size w ((w25.setCell ⟨gb460, 0, none⟩ (.int .i64 t455)).setCell ⟨gb460, 1, none⟩ (.slice Ao30 t456.length co30))) := ⟨ms HB⟩
     (try clear HO442)
     (try clear HO446)
     (try clear HO452)
     (try clear HO458)
     (try clear BK447)
     (try clear BK448)
     (try clear BK454)
     (try clear BK460)
     (try clear HB)
     generalize ((w25.setCell ⟨gb460, 0, none⟩ (.int .i64 t455)).setCell ⟨gb460, 1, none⟩ (.slice Ao30 t456.length co30)) = w38 at n0_ n1_ n2_ n3_ n4_ n5_ n6_ n7_ n8_ ⊢
     have HO442 := n0_
     have HO446 := n1_
     have HO452 := n2_
     have HO458 := n3_
     have BK447 := n4_
     have BK448 := n5_
     have BK454 := n6_
     have BK460 := n7_
     have HB := n8_
     clear n0_ n1_ n2_ n3_ n4_ n5_ n6_ n7_ n8_
     replace HO442 := Aside0.mk (Kd.S_drew HO442.out)
     replace HO446 := Aside0.mk (Kd.R_drew HO446.out)
     replace HO452 := Aside0.mk (Kd.S_drew HO452.out)
     replace HO458 := Aside0.mk (Kd.S_drew HO458.out)
     replace BK447 := Aside0.mk (blk_drew BK447.out)
     replace BK448 := Aside0.mk (blk_drew BK448.out)
     replace BK454 := Aside0.mk (blk_drew BK454.out)
     replace BK460 := Aside0.mk (blk_drew BK460.out)
     replace HB := Aside0.mk (below_drew1 HB.out)
     refine start_ (n := 16) (S := fun w' => w'.cell? ⟨gb454, 0, none⟩ = some (.int .i64 t449) ∧ w'.cell? ⟨gb454, 1, none⟩ = some (.slice Ao21 t450.length co21) ∧ w'.cell? ⟨gb460, 0, none⟩ = some (.int .i64 t455) ∧ w'.cell? ⟨gb460, 1, none⟩ = some (.slice Ao30 t456.length co30) ∧ w'.cell? ⟨gb447, 0, none⟩ = some (.int .i64 t439) ∧ w'.cell? ⟨gb447, 1, none⟩ = some (.slice Ao13 t440.length co13)) (ds := []) #[false, false, false, false, false, false, false, false, false, false, false, false, false, false, false, false] (by kernel_rfl) rfl rfl ⟨(c2 BK454).1, (c2 BK454).2, (c2 BK460).1, (c2 BK460).2, (c2 BK447).1, (c2 BK447).2⟩ (fun hHeld => ?_); refine with_tabW laws_FnSystems.tab6 laws_FnSystems.bits6 (fun HT_ HW_ => ?_)
     generalize w38.drew = w39 at HO442 HO446 HO452 HO458 BK447 BK448 BK454 BK460 HB hHeld ⊢
     refine pure_ (i := 0) (N := some 32) (v := ?_) (a' := ?_) #[true, false, false, false, false, false, false, false, false, false, false, false, false, false, false, false] rfl rfl (any_of HT_.out (by kernel_rfl)) (fun _ _ _ h => h) (Or.inl ⟨by rfl, ?_⟩) ?_ ?_
     rotate_left
     ·intro w'
      go_simp
      with_reducible rfl
     rotate_left
     ·simp only [Act.put, List.setIfInBounds_toArray, List.set_cons_zero, List.set_cons_succ, i64_w, i32_w]
      rfl
     refine pure_ (i := 1) (N := some 33) (v := ?_) (a' := ?_) #[true, true, false, false, false, false, false, false, false, false, false, false, false, false, false, false] rfl rfl (any_of HT_.out (by kernel_rfl)) (fun _ _ _ h => h) (Or.inl ⟨by rfl, ?_⟩) ?_ ?_
     rotate_left
     ·intro w'
      go_simp
      with_reducible rfl
     rotate_left
     ·simp only [Act.put, List.setIfInBounds_toArray, List.set_cons_zero, List.set_cons_succ, i64_w, i32_w]
      rfl
     refine pure_ (i := 2) (N := some 34) (v := ?_) (a' := ?_) #[true, true, true, false, false, false, false, false, false, false, false, false, false, false, false, false] rfl rfl (any_of HT_.out (by kernel_rfl)) (fun _ _ _ h => h) (Or.inl ⟨by rfl, ?_⟩) ?_ ?_
     rotate_left
     ·intro w'
      go_simp
      with_reducible rfl
     rotate_left
     ·simp only [Act.put, List.setIfInBounds_toArray, List.set_cons_zero, List.set_cons_succ, i64_w, i32_w]
      rfl
     refine pure_ (i := 3) (N := some 35) (v := ?_) (a' := ?_) #[true, true, true, true, false, false, false, false, false, false, false, false, false, false, false, false] rfl rfl (any_of HT_.out (by kernel_rfl)) (fun _ _ _ h => h) (Or.inl ⟨by rfl, ?_⟩) ?_ ?_
     rotate_left
     ·intro w'
      go_simp
      with_reducible rfl
     rotate_left
     ·simp only [Act.put, List.setIfInBounds_toArray, List.set_cons_zero, List.set_cons_succ, i64_w, i32_w]
      rfl
     refine take_ (i := 4) (N := some 36) (v := ?_) (a' := ?_) #[true, true, true, true, true, false, false, false, false, false, false, false, false, false, false, false] rfl rfl (take_ofW HT_.out HW_.out (by kernel_rfl)) (fun _ _ _ h => h) (Or.inl ⟨by rfl, ?_⟩) hHeld ?_ ?_
     rotate_left
     ·rintro w' ⟨s0, s1, s2, s3, s4, s5⟩
      go_simp
      with_reducible rfl
     rotate_left
     ·simp only [Act.put, List.setIfInBounds_toArray, List.set_cons_zero, List.set_cons_succ, i64_w, i32_w]
      rfl
     refine take_ (i := 5) (N := some 37) (v := ?_) (a' := ?_) #[true, true, true, true, true, true, false, false, false, false, false, false, false, false, false, false] rfl rfl (take_ofW HT_.out HW_.out (by kernel_rfl)) (fun _ _ _ h => h) (Or.inl ⟨by rfl, ?_⟩) hHeld ?_ ?_
     rotate_left
     ·rintro w' ⟨s0, s1, s2, s3, s4, s5⟩
      go_simp
      with_reducible rfl
     rotate_left
     ·simp only [Act.put, List.setIfInBounds_toArray, List.set_cons_zero, List.set_cons_succ, i64_w, i32_w]
      rfl
     refine one_ (i := 6) (N := some 38) #[true, true, true, true, true, true, true, false, false, false, false, false, false, false, false, false] rfl rfl (one_of HT_.out (by kernel_rfl)) (by decide) (fun K hK => ?_)
     refine goes_ Try.func32 (by kernel_rfl) rfl #[.agg #[.int .i64 t449, .slice Ao21 t450.length co21], .agg #[.int .i64 t455, .slice Ao30 t456.length co30]] (by rfl) rfl rfl (by (try simp only [List.map_toArray, List.map_cons, List.map_nil]); first | done | rfl | (simp only [List.length_drop, List.length_take]; rfl)) ?_
     with_reducible refine (impl_EqualSystem.calls k t449 _ _ t450 t455 _ _ t456 true _ ?side1 ?side2 ?side3 ?side4 A34.out).mono ?_
     (case side1 => exact mc ((Kd.S_reads' HO452.out).2.2))
     (case side2 => exact (Kd.S_reads' HO452.out).2.1)
     (case side3 => exact mc ((Kd.S_reads' HO458.out).2.2))
     (case side4 => exact (Kd.S_reads' HO458.out).2.1)
     rintro e w40 ⟨rfl, hb⟩
     refine ⟨_, rfl, ?_⟩
     have n0_ := Aside0.mk (Kd.S_below (by (with_reducible repeat (first | apply Kd.S_alloc | apply Kd.S_drewN | apply Kd.S_drew)); exact HO442.out) hb)
     have n1_ := rb HO446 hb
     have n2_ := Aside0.mk (Kd.S_below (by (with_reducible repeat (first | apply Kd.S_alloc | apply Kd.S_drewN | apply Kd.S_drew)); exact HO452.out) hb)
     have n3_ := Aside0.mk (Kd.S_below (by (with_reducible repeat (first | apply Kd.S_alloc | apply Kd.S_drewN | apply Kd.S_drew)); exact HO458.out) hb)
     have n4_ := bb BK447 hb
     have n5_ := bb BK448 hb
     have n6_ := bb BK454 hb
     have n7_ := bb BK460 hb
     have n8_ := bs HB hb
     clear HO442
     clear HO446
     clear HO452
     clear HO458
     clear BK447
     clear BK448
     clear BK454
     clear BK460
     clear HB
     have HO442 := n0_
     have HO446 := n1_
     have HO452 := n2_
     have HO458 := n3_
     have BK447 := n4_
     have BK448 := n5_
     have BK454 := n6_
     have BK460 := n7_
     have HB := n8_
     clear n0_ n1_ n2_ n3_ n4_ n5_ n6_ n7_ n8_
     (try clear hb)
     (try clear hb2)
     (try clear hk)
     (try clear hi)
     refine hK.out _ _ ⟨(c2 BK454).1, (c2 BK454).2, (c2 BK460).1, (c2 BK460).2, (c2 BK447).1, (c2 BK447).2⟩ (fun hHeld => ?_)
     clear hK K
     refine norm_ (a' := ?_) ?_ ?_
     rotate_left
     ·show Act.put _ (some 38) _ = _
      simp only [Act.put, List.setIfInBounds_toArray, List.set_cons_zero, List.set_cons_succ, i64_w, i32_w]
      rfl
     refine pure_ (i := 7) (N := some 39) (v := ?_) (a' := ?_) #[true, true, true, true, true, true, true, true, false, false, false, false, false, false, false, false] rfl rfl (any_of HT_.out (by kernel_rfl)) (fun _ _ _ h => h) (Or.inl ⟨by rfl, ?_⟩) ?_ ?_
     rotate_left
     ·intro w'
      go_simp
      with_reducible rfl
     rotate_left
     ·simp only [Act.put, List.setIfInBounds_toArray, List.set_cons_zero, List.set_cons_succ, i64_w, i32_w]
      rfl
     refine pure_ (i := 8) (N := some 40) (v := ?_) (a' := ?_) #[true, true, true, true, true, true, true, true, true, false, false, false, false, false, false, false] rfl rfl (any_of HT_.out (by kernel_rfl)) (fun _ _ _ h => h) (Or.inl ⟨by rfl, ?_⟩) ?_ ?_
     rotate_left
     ·intro w'
      go_simp
      with_reducible rfl
     rotate_left
     ·simp only [Act.put, List.setIfInBounds_toArray, List.set_cons_zero, List.set_cons_succ, i64_w, i32_w]
      rfl
     refine pure_ (i := 9) (N := some 41) (v := ?_) (a' := ?_) #[true, true, true, true, true, true, true, true, true, true, false, false, false, false, false, false] rfl rfl (any_of HT_.out (by kernel_rfl)) (fun _ _ _ h => h) (Or.inl ⟨by rfl, ?_⟩) ?_ ?_
     rotate_left
     ·intro w'
      go_simp
      with_reducible rfl
     rotate_left
     ·simp only [Act.put, List.setIfInBounds_toArray, List.set_cons_zero, List.set_cons_succ, i64_w, i32_w]
      rfl
     refine take_ (i := 10) (N := some 42) (v := ?_) (a' := ?_) #[true, true, true, true, true, true, true, true, true, true, true, false, false, false, false, false] rfl rfl (take_ofW HT_.out HW_.out (by kernel_rfl)) (fun _ _ _ h => h) (Or.inl ⟨by rfl, ?_⟩) hHeld ?_ ?_
     rotate_left
     ·rintro w' ⟨s0, s1, s2, s3, s4, s5⟩
      go_simp
      with_reducible rfl
     rotate_left
     ·simp only [Act.put, List.setIfInBounds_toArray, List.set_cons_zero, List.set_cons_succ, i64_w, i32_w]
      rfl
     refine take_ (i := 12) (N := some 44) (v := ?_) (a' := ?_) #[true, true, true, true, true, true, true, true, true, true, true, false, true, false, false, false] rfl rfl (take_ofW HT_.out HW_.out (by kernel_rfl)) (fun _ _ _ h => h) (Or.inl ⟨by rfl, ?_⟩) hHeld ?_ ?_
     rotate_left
     ·rintro w' ⟨s0, s1, s2, s3, s4, s5⟩
      go_simp
      with_reducible rfl
     rotate_left
     ·simp only [Act.put, List.setIfInBounds_toArray, List.set_cons_zero, List.set_cons_succ, i64_w, i32_w]
      rfl
     refine one_ (i := 11) (N := some 43) #[true, true, true, true, true, true, true, true, true, true, true, true, true, false, false, false] rfl rfl (one_of HT_.out (by kernel_rfl)) (by decide) (fun K hK => ?_)
     refine goes_ Try.func33 (by kernel_rfl) rfl #[.agg #[.int .i64 t439, .slice Ao13 t440.length co13]] (by rfl) rfl rfl (by (try simp only [List.map_toArray, List.map_cons, List.map_nil]); first | done | rfl | (simp only [List.length_drop, List.length_take]; rfl)) ?_
     with_reducible refine (impl_IsValidSystem.calls k t439 _ _ t440 t462 _ ?side1 ?side2 A36.out).mono ?_
     (case side1 => exact mc ((Kd.S_reads' HO442.out).2.2))
     (case side2 => exact (Kd.S_reads' HO442.out).2.1)
     rintro e w41 ⟨rfl, hb⟩
     refine ⟨_, rfl, ?_⟩
     have n0_ := Aside0.mk (Kd.S_below (by (with_reducible repeat (first | apply Kd.S_alloc | apply Kd.S_drewN | apply Kd.S_drew)); exact HO442.out) hb)
     have n1_ := rb HO446 hb
     have n2_ := Aside0.mk (Kd.S_below (by (with_reducible repeat (first | apply Kd.S_alloc | apply Kd.S_drewN | apply Kd.S_drew)); exact HO452.out) hb)
     have n3_ := Aside0.mk (Kd.S_below (by (with_reducible repeat (first | apply Kd.S_alloc | apply Kd.S_drewN | apply Kd.S_drew)); exact HO458.out) hb)
     have n4_ := bb BK447 hb
     have n5_ := bb BK448 hb
     have n6_ := bb BK454 hb
     have n7_ := bb BK460 hb
     have n8_ := bs HB hb
     clear HO442
     clear HO446
     clear HO452
     clear HO458
     clear BK447
     clear BK448
     clear BK454
     clear BK460
     clear HB
     have HO442 := n0_
     have HO446 := n1_
     have HO452 := n2_
     have HO458 := n3_
     have BK447 := n4_
     have BK448 := n5_
     have BK454 := n6_
     have BK460 := n7_
     have HB := n8_
     clear n0_ n1_ n2_ n3_ n4_ n5_ n6_ n7_ n8_
     (try clear hb)
     (try clear hb2)
     (try clear hk)
     (try clear hi)
     refine hK.out _ _ ⟨(c2 BK454).1, (c2 BK454).2, (c2 BK460).1, (c2 BK460).2, (c2 BK447).1, (c2 BK447).2⟩ (fun hHeld => ?_)
     clear hK K
     refine norm_ (a' := ?_) ?_ ?_
     rotate_left
     ·show Act.put _ (some 43) _ = _
      simp only [Act.put, List.setIfInBounds_toArray, List.set_cons_zero, List.set_cons_succ, i64_w, i32_w]
      rfl
     refine one_ (i := 13) (N := some 45) #[true, true, true, true, true, true, true, true, true, true, true, true, true, true, false, false] rfl rfl (one_of HT_.out (by kernel_rfl)) (by decide) (fun K hK => ?_)
     refine goes_ Try.func34 (by kernel_rfl) rfl #[.agg #[.int .i64 t439, .slice Ao13 t440.length co13]] (by rfl) rfl rfl (by (try simp only [List.map_toArray, List.map_cons, List.map_nil]); first | done | rfl | (simp only [List.length_drop, List.length_take]; rfl)) ?_
     with_reducible refine (spec_IsValidSystem.calls k t439 _ _ t440 t463 _ ?side1 ?side2 A37.out).mono ?_
     (case side1 => exact mc ((Kd.S_reads' HO442.out).2.2))
     (case side2 => exact (Kd.S_reads' HO442.out).2.1)
     rintro e w42 ⟨rfl, hb⟩
     refine ⟨_, rfl, ?_⟩
     have n0_ := Aside0.mk (Kd.S_below (by (with_reducible repeat (first | apply Kd.S_alloc | apply Kd.S_drewN | apply Kd.S_drew)); exact HO442.out) hb)
     have n1_ := rb HO446 hb
     have n2_ := Aside0.mk (Kd.S_below (by (with_reducible repeat (first | apply Kd.S_alloc | apply Kd.S_drewN | apply Kd.S_drew)); exact HO452.out) hb)
     have n3_ := Aside0.mk (Kd.S_below (by (with_reducible repeat (first | apply Kd.S_alloc | apply Kd.S_drewN | apply Kd.S_drew)); exact HO458.out) hb)
     have n4_ := bb BK447 hb
     have n5_ := bb BK448 hb
     have n6_ := bb BK454 hb
     have n7_ := bb BK460 hb
     have n8_ := bs HB hb
     clear HO442
     clear HO446
     clear HO452
     clear HO458
     clear BK447
     clear BK448
     clear BK454
     clear BK460
     clear HB
     have HO442 := n0_
     have HO446 := n1_
     have HO452 := n2_
     have HO458 := n3_
     have BK447 := n4_
     have BK448 := n5_
     have BK454 := n6_
     have BK460 := n7_
     have HB := n8_
     clear n0_ n1_ n2_ n3_ n4_ n5_ n6_ n7_ n8_
     (try clear hb)
     (try clear hb2)
     (try clear hk)
     (try clear hi)
     refine hK.out _ _ ⟨(c2 BK454).1, (c2 BK454).2, (c2 BK460).1, (c2 BK460).2, (c2 BK447).1, (c2 BK447).2⟩ (fun hHeld => ?_)
     clear hK K
     refine norm_ (a' := ?_) ?_ ?_
     rotate_left
     ·show Act.put _ (some 45) _ = _
      simp only [Act.put, List.setIfInBounds_toArray, List.set_cons_zero, List.set_cons_succ, i64_w, i32_w]
      rfl
     refine pure_ (i := 14) (N := some 46) (v := ?_) (a' := ?_) #[true, true, true, true, true, true, true, true, true, true, true, true, true, true, true, false] rfl rfl (any_of HT_.out (by kernel_rfl)) (fun _ _ _ h => h) (Or.inl ⟨by rfl, ?_⟩) ?_ ?_
     rotate_left
     ·intro w'
      go_simp
      with_reducible rfl
     rotate_left
     ·simp only [Act.put, List.setIfInBounds_toArray, List.set_cons_zero, List.set_cons_succ, i64_w, i32_w]
      rfl
     refine pure_ (i := 15) (N := some 47) (v := ?_) (a' := ?_) #[true, true, true, true, true, true, true, true, true, true, true, true, true, true, true, true] rfl rfl (any_of HT_.out (by kernel_rfl)) (fun _ _ _ h => h) (Or.inl ⟨by rfl, ?_⟩) ?_ ?_
     rotate_left
     ·intro w'
      go_simp
      with_reducible rfl
     rotate_left
     ·simp only [Act.put, List.setIfInBounds_toArray, List.set_cons_zero, List.set_cons_succ, i64_w, i32_w]
      rfl
     refine done_ (done_of HT_.out (by kernel_rfl)) ?_
     try go_wp2
     go_meet
     case rel => exact ⟨_, ((t462 != t463)), (by first | rfl | (simp; done) | (simp [*]; done)), H', ⟨by first | omega | exact Nat.le_refl _⟩, ⟨by (with_reducible repeat (first | apply Kd.S_alloc | apply Kd.S_drewN | apply Kd.S_drew)); exact HO442.out⟩, ⟨by (with_reducible repeat (first | apply Kd.R_alloc | apply Kd.R_drewN | apply Kd.R_drew)); exact HO446.out⟩, ⟨by (with_reducible repeat (first | apply Kd.S_alloc | apply Kd.S_drewN | apply Kd.S_drew)); exact HO452.out⟩, ⟨by (with_reducible repeat (first | apply Kd.S_alloc | apply Kd.S_drewN | apply Kd.S_drew)); exact HO458.out⟩, ⟨by (with_reducible repeat (first | refine blk_drewN ?_ _ | refine blk_drew ?_ | refine blk_alloc ?_ _)); exact BK447.out⟩, ⟨by (with_reducible repeat (first | refine blk_drewN ?_ _ | refine blk_drew ?_ | refine blk_alloc ?_ _)); exact BK448.out⟩, ⟨by (with_reducible repeat (first | refine blk_drewN ?_ _ | refine blk_drew ?_ | refine blk_alloc ?_ _)); exact BK454.out⟩, ⟨by (with_reducible repeat (first | refine blk_drewN ?_ _ | refine blk_drew ?_ | refine blk_alloc ?_ _)); exact BK460.out⟩, ⟨ms HB⟩⟩
    ·replace c35 := Bool.eq_false_iff.mpr c35
     subst c35
     have H1 : (laws_FnSystems.j0 k l0 t453 true t439 t440 t443 t444 t449 t450) = some r := by rw [if_neg (show ¬ (false = true) by decide)] at H; exact H
     clear H
     have H := H1
     clear H1
     have H' := Aside0.mk H
     clear H
     try go_wp2
     have n0_ : Aside0 (Kd.S k36 36 ((w25.setCell ⟨gb460, 0, none⟩ (.int .i64 t455)).setCell ⟨gb460, 1, none⟩ (.slice Ao30 t456.length co30)) w.heap.size (fun k_ => some k_ ≠ (.slice Ao15 t444.length co15 : Value).ownBlock ∧ some k_ ≠ (.slice Ao21 t450.length co21 : Value).ownBlock ∧ some k_ ≠ (.slice Ao30 t456.length co30 : Value).ownBlock ∧ k_ ≠ gb448) (.slice Ao13 t440.length co13) t440) := ⟨by (with_reducible repeat (first | apply Kd.S_alloc | apply Kd.S_drewN | apply Kd.S_drew)); exact Kd.S_mono (Kd.S_far (p := ⟨gb460, 1, none⟩) (Kd.S_far (p := ⟨gb460, 0, none⟩) (Kd.S_types HO442.out BK460.out (by decide)) (fun _ hk => hk.2) (.int .i64 t455)) (fun _ hk => hk.2) (.slice Ao30 t456.length co30)) (fun _ hk => ⟨hk.1.1.1.1, ⟨hk.1.1.2, ⟨hk.1.2, hk.1.1.1.2⟩⟩⟩)⟩
     have n1_ : Aside0 (Kd.R (Kd.int .i64) 3 ((w25.setCell ⟨gb460, 0, none⟩ (.int .i64 t455)).setCell ⟨gb460, 1, none⟩ (.slice Ao30 t456.length co30)) w.heap.size (fun _ => True) (.slice Ao15 t444.length co15) t444) := ⟨by (with_reducible repeat (first | apply Kd.R_alloc | apply Kd.R_drewN | apply Kd.R_drew)); exact Kd.R_mono (Kd.R_far (p := ⟨gb460, 1, none⟩) (Kd.R_far (p := ⟨gb460, 0, none⟩) (Kd.R_types HO446.out BK460.out (by decide)) (fun _ hk => hk.2) (.int .i64 t455)) (fun _ hk => hk.2) (.slice Ao30 t456.length co30)) (fun _ hk => trivial)⟩
     have n2_ : Aside0 (Kd.S k36 36 ((w25.setCell ⟨gb460, 0, none⟩ (.int .i64 t455)).setCell ⟨gb460, 1, none⟩ (.slice Ao30 t456.length co30)) w.heap.size (fun k_ => some k_ ≠ (.slice Ao13 t440.length co13 : Value).ownBlock ∧ some k_ ≠ (.slice Ao15 t444.length co15 : Value).ownBlock ∧ some k_ ≠ (.slice Ao30 t456.length co30 : Value).ownBlock ∧ k_ ≠ gb448) (.slice Ao21 t450.length co21) t450) := ⟨by (with_reducible repeat (first | apply Kd.S_alloc | apply Kd.S_drewN | apply Kd.S_drew)); exact Kd.S_mono (Kd.S_far (p := ⟨gb460, 1, none⟩) (Kd.S_far (p := ⟨gb460, 0, none⟩) (Kd.S_types HO452.out BK460.out (by decide)) (fun _ hk => hk.2) (.int .i64 t455)) (fun _ hk => hk.2) (.slice Ao30 t456.length co30)) (fun _ hk => ⟨hk.1.1.1.1.2, ⟨hk.1.1.1.2, ⟨hk.1.2, hk.1.1.2⟩⟩⟩)⟩
     have n3_ : Aside0 (Kd.S k36 36 ((w25.setCell ⟨gb460, 0, none⟩ (.int .i64 t455)).setCell ⟨gb460, 1, none⟩ (.slice Ao30 t456.length co30)) w.heap.size (fun k_ => some k_ ≠ (.slice Ao13 t440.length co13 : Value).ownBlock ∧ some k_ ≠ (.slice Ao15 t444.length co15 : Value).ownBlock ∧ some k_ ≠ (.slice Ao21 t450.length co21 : Value).ownBlock ∧ k_ ≠ gb448) (.slice Ao30 t456.length co30) t456) := ⟨by (with_reducible repeat (first | apply Kd.S_alloc | apply Kd.S_drewN | apply Kd.S_drew)); exact Kd.S_mono (Kd.S_far (p := ⟨gb460, 1, none⟩) (Kd.S_far (p := ⟨gb460, 0, none⟩) (Kd.S_types HO458.out BK460.out (by decide)) (fun _ hk => hk.2) (.int .i64 t455)) (fun _ hk => hk.2) (.slice Ao30 t456.length co30)) (fun _ hk => ⟨hk.1.1.1.1.2, ⟨hk.1.1.1.2, ⟨hk.1.1.2, hk.1.2⟩⟩⟩)⟩
     have n4_ : Aside0 (((w25.setCell ⟨gb460, 0, none⟩ (.int .i64 t455)).setCell ⟨gb460, 1, none⟩ (.slice Ao30 t456.length co30)).heap[gb447]? = some (.cells #[.int .i64 t439, .slice Ao13 t440.length co13] 32 (0, 0))) := ⟨by (with_reducible repeat (first | refine blk_drewN ?_ _ | refine blk_drew ?_ | refine blk_alloc ?_ _)); refine blk_far ?_ NB447_460.out _; (with_reducible repeat (first | refine blk_drewN ?_ _ | refine blk_drew ?_ | refine blk_alloc ?_ _)); refine blk_far ?_ NB447_460.out _; (with_reducible repeat (first | refine blk_drewN ?_ _ | refine blk_drew ?_ | refine blk_alloc ?_ _)); exact BK447.out⟩
     have n5_ : Aside0 (((w25.setCell ⟨gb460, 0, none⟩ (.int .i64 t455)).setCell ⟨gb460, 1, none⟩ (.slice Ao30 t456.length co30)).heap[gb448]? = some (.cells #[.int .i64 t443, .slice Ao15 t444.length co15] 36 (0, 0))) := ⟨by (with_reducible repeat (first | refine blk_drewN ?_ _ | refine blk_drew ?_ | refine blk_alloc ?_ _)); refine blk_far ?_ NB448_460.out _; (with_reducible repeat (first | refine blk_drewN ?_ _ | refine blk_drew ?_ | refine blk_alloc ?_ _)); refine blk_far ?_ NB448_460.out _; (with_reducible repeat (first | refine blk_drewN ?_ _ | refine blk_drew ?_ | refine blk_alloc ?_ _)); exact BK448.out⟩
     have n6_ : Aside0 (((w25.setCell ⟨gb460, 0, none⟩ (.int .i64 t455)).setCell ⟨gb460, 1, none⟩ (.slice Ao30 t456.length co30)).heap[gb454]? = some (.cells #[.int .i64 t449, .slice Ao21 t450.length co21] 32 (0, 0))) := ⟨by (with_reducible repeat (first | refine blk_drewN ?_ _ | refine blk_drew ?_ | refine blk_alloc ?_ _)); refine blk_far ?_ NB454_460.out _; (with_reducible repeat (first | refine blk_drewN ?_ _ | refine blk_drew ?_ | refine blk_alloc ?_ _)); refine blk_far ?_ NB454_460.out _; (with_reducible repeat (first | refine blk_drewN ?_ _ | refine blk_drew ?_ | refine blk_alloc ?_ _)); exact BK454.out⟩
     have n7_ : Aside0 (((w25.setCell ⟨gb460, 0, none⟩ (.int .i64 t455)).setCell ⟨gb460, 1, none⟩ (.slice Ao30 t456.length co30)).heap[gb460]? = some (.cells #[.int .i64 t455, .slice Ao30 t456.length co30] 32 (0, 0))) := ⟨by (with_reducible repeat (first | refine blk_drewN ?_ _ | refine blk_drew ?_ | refine blk_alloc ?_ _)); refine blk_put (cs := #[.int .i64 t455, .slice none 0 0]) ?_ 1 _ rfl; (with_reducible repeat (first | refine blk_drewN ?_ _ | refine blk_drew ?_ | refine blk_alloc ?_ _)); refine blk_put (cs := #[.int .i64 0, .slice none 0 0]) ?_ 0 _ rfl; (with_reducible repeat (first | refine blk_drewN ?_ _ | refine blk_drew ?_ | refine blk_alloc ?_ _)); exact BK460.out⟩
     have n8_ : Aside0 (Below w.heap.size w ((w25.setCell ⟨gb460, 0, none⟩ (.int .i64 t455)).setCell ⟨gb460, 1, none⟩ (.slice Ao30 t456.length co30))) := ⟨ms HB⟩
     (try clear HO442)
     (try clear HO446)
     (try clear HO452)
     (try clear HO458)
     (try clear BK447)
     (try clear BK448)
     (try clear BK454)
     (try clear BK460)
     (try clear HB)
     generalize ((w25.setCell ⟨gb460, 0, none⟩ (.int .i64 t455)).setCell ⟨gb460, 1, none⟩ (.slice Ao30 t456.length co30)) = w43 at n0_ n1_ n2_ n3_ n4_ n5_ n6_ n7_ n8_ ⊢
     have HO442 := n0_
     have HO446 := n1_
     have HO452 := n2_
     have HO458 := n3_
     have BK447 := n4_
     have BK448 := n5_
     have BK454 := n6_
     have BK460 := n7_
     have HB := n8_
     clear n0_ n1_ n2_ n3_ n4_ n5_ n6_ n7_ n8_
     replace HO442 := Aside0.mk (Kd.S_drew HO442.out)
     replace HO446 := Aside0.mk (Kd.R_drew HO446.out)
     replace HO452 := Aside0.mk (Kd.S_drew HO452.out)
     replace HO458 := Aside0.mk (Kd.S_drew HO458.out)
     replace BK447 := Aside0.mk (blk_drew BK447.out)
     replace BK448 := Aside0.mk (blk_drew BK448.out)
     replace BK454 := Aside0.mk (blk_drew BK454.out)
     replace BK460 := Aside0.mk (blk_drew BK460.out)
     replace HB := Aside0.mk (below_drew1 HB.out)
     refine start_ (n := 16) (S := fun w' => w'.cell? ⟨gb454, 0, none⟩ = some (.int .i64 t449) ∧ w'.cell? ⟨gb454, 1, none⟩ = some (.slice Ao21 t450.length co21) ∧ w'.cell? ⟨gb460, 0, none⟩ = some (.int .i64 t455) ∧ w'.cell? ⟨gb460, 1, none⟩ = some (.slice Ao30 t456.length co30)) (ds := []) #[false, false, false, false, false, false, false, false, false, false, false, false, false, false, false, false] (by kernel_rfl) rfl rfl ⟨(c2 BK454).1, (c2 BK454).2, (c2 BK460).1, (c2 BK460).2⟩ (fun hHeld => ?_); refine with_tabW laws_FnSystems.tab6 laws_FnSystems.bits6 (fun HT_ HW_ => ?_)
     generalize w43.drew = w44 at HO442 HO446 HO452 HO458 BK447 BK448 BK454 BK460 HB hHeld ⊢
     refine pure_ (i := 0) (N := some 32) (v := ?_) (a' := ?_) #[true, false, false, false, false, false, false, false, false, false, false, false, false, false, false, false] rfl rfl (any_of HT_.out (by kernel_rfl)) (fun _ _ _ h => h) (Or.inl ⟨by rfl, ?_⟩) ?_ ?_
     rotate_left
     ·intro w'
      go_simp
      with_reducible rfl
     rotate_left
     ·simp only [Act.put, List.setIfInBounds_toArray, List.set_cons_zero, List.set_cons_succ, i64_w, i32_w]
      rfl
     refine pure_ (i := 1) (N := some 33) (v := ?_) (a' := ?_) #[true, true, false, false, false, false, false, false, false, false, false, false, false, false, false, false] rfl rfl (any_of HT_.out (by kernel_rfl)) (fun _ _ _ h => h) (Or.inl ⟨by rfl, ?_⟩) ?_ ?_
     rotate_left
     ·intro w'
      go_simp
      with_reducible rfl
     rotate_left
     ·simp only [Act.put, List.setIfInBounds_toArray, List.set_cons_zero, List.set_cons_succ, i64_w, i32_w]
      rfl
     refine pure_ (i := 2) (N := some 34) (v := ?_) (a' := ?_) #[true, true, true, false, false, false, false, false, false, false, false, false, false, false, false, false] rfl rfl (any_of HT_.out (by kernel_rfl)) (fun _ _ _ h => h) (Or.inl ⟨by rfl, ?_⟩) ?_ ?_
     rotate_left
     ·intro w'
      go_simp
      with_reducible rfl
     rotate_left
     ·simp only [Act.put, List.setIfInBounds_toArray, List.set_cons_zero, List.set_cons_succ, i64_w, i32_w]
      rfl
     refine pure_ (i := 3) (N := some 35) (v := ?_) (a' := ?_) #[true, true, true, true, false, false, false, false, false, false, false, false, false, false, false, false] rfl rfl (any_of HT_.out (by kernel_rfl)) (fun _ _ _ h => h) (Or.inl ⟨by rfl, ?_⟩) ?_ ?_
     rotate_left
     ·intro w'
      go_simp
      with_reducible rfl
     rotate_left
     ·simp only [Act.put, List.setIfInBounds_toArray, List.set_cons_zero, List.set_cons_succ, i64_w, i32_w]
      rfl
     refine take_ (i := 4) (N := some 36) (v := ?_) (a' := ?_) #[true, true, true, true, true, false, false, false, false, false, false, false, false, false, false, false] rfl rfl (take_ofW HT_.out HW_.out (by kernel_rfl)) (fun _ _ _ h => h) (Or.inl ⟨by rfl, ?_⟩) hHeld ?_ ?_
     rotate_left
     ·rintro w' ⟨s0, s1, s2, s3⟩
      go_simp
      with_reducible rfl
     rotate_left
     ·simp only [Act.put, List.setIfInBounds_toArray, List.set_cons_zero, List.set_cons_succ, i64_w, i32_w]
      rfl
     refine take_ (i := 5) (N := some 37) (v := ?_) (a' := ?_) #[true, true, true, true, true, true, false, false, false, false, false, false, false, false, false, false] rfl rfl (take_ofW HT_.out HW_.out (by kernel_rfl)) (fun _ _ _ h => h) (Or.inl ⟨by rfl, ?_⟩) hHeld ?_ ?_
     rotate_left
     ·rintro w' ⟨s0, s1, s2, s3⟩
      go_simp
      with_reducible rfl
     rotate_left
     ·simp only [Act.put, List.setIfInBounds_toArray, List.set_cons_zero, List.set_cons_succ, i64_w, i32_w]
      rfl
     refine one_ (i := 6) (N := some 38) #[true, true, true, true, true, true, true, false, false, false, false, false, false, false, false, false] rfl rfl (one_of HT_.out (by kernel_rfl)) (by decide) (fun K hK => ?_)
     refine goes_ Try.func32 (by kernel_rfl) rfl #[.agg #[.int .i64 t449, .slice Ao21 t450.length co21], .agg #[.int .i64 t455, .slice Ao30 t456.length co30]] (by rfl) rfl rfl (by (try simp only [List.map_toArray, List.map_cons, List.map_nil]); first | done | rfl | (simp only [List.length_drop, List.length_take]; rfl)) ?_
     with_reducible refine (impl_EqualSystem.calls k t449 _ _ t450 t455 _ _ t456 false _ ?side1 ?side2 ?side3 ?side4 A34.out).mono ?_
     (case side1 => exact mc ((Kd.S_reads' HO452.out).2.2))
     (case side2 => exact (Kd.S_reads' HO452.out).2.1)
     (case side3 => exact mc ((Kd.S_reads' HO458.out).2.2))
     (case side4 => exact (Kd.S_reads' HO458.out).2.1)
     rintro e w45 ⟨rfl, hb⟩
     refine ⟨_, rfl, ?_⟩
     have n0_ := Aside0.mk (Kd.S_below (by (with_reducible repeat (first | apply Kd.S_alloc | apply Kd.S_drewN | apply Kd.S_drew)); exact HO442.out) hb)
     have n1_ := rb HO446 hb
     have n2_ := Aside0.mk (Kd.S_below (by (with_reducible repeat (first | apply Kd.S_alloc | apply Kd.S_drewN | apply Kd.S_drew)); exact HO452.out) hb)
     have n3_ := Aside0.mk (Kd.S_below (by (with_reducible repeat (first | apply Kd.S_alloc | apply Kd.S_drewN | apply Kd.S_drew)); exact HO458.out) hb)
     have n4_ := bb BK447 hb
     have n5_ := bb BK448 hb
     have n6_ := bb BK454 hb
     have n7_ := bb BK460 hb
     have n8_ := bs HB hb
     clear HO442
     clear HO446
     clear HO452
     clear HO458
     clear BK447
     clear BK448
     clear BK454
     clear BK460
     clear HB
     have HO442 := n0_
     have HO446 := n1_
     have HO452 := n2_
     have HO458 := n3_
     have BK447 := n4_
     have BK448 := n5_
     have BK454 := n6_
     have BK460 := n7_
     have HB := n8_
     clear n0_ n1_ n2_ n3_ n4_ n5_ n6_ n7_ n8_
     (try clear hb)
     (try clear hb2)
     (try clear hk)
     (try clear hi)
     refine hK.out _ _ ⟨(c2 BK454).1, (c2 BK454).2, (c2 BK460).1, (c2 BK460).2⟩ (fun hHeld => ?_)
     clear hK K
     refine norm_ (a' := ?_) ?_ ?_
     rotate_left
     ·show Act.put _ (some 38) _ = _
      simp only [Act.put, List.setIfInBounds_toArray, List.set_cons_zero, List.set_cons_succ, i64_w, i32_w]
      rfl
     refine pure_ (i := 7) (N := some 39) (v := ?_) (a' := ?_) #[true, true, true, true, true, true, true, true, false, false, false, false, false, false, false, false] rfl rfl (any_of HT_.out (by kernel_rfl)) (fun _ _ _ h => h) (Or.inl ⟨by rfl, ?_⟩) ?_ ?_
     rotate_left
     ·intro w'
      go_simp
      with_reducible rfl
     rotate_left
     ·simp only [Act.put, List.setIfInBounds_toArray, List.set_cons_zero, List.set_cons_succ, i64_w, i32_w]
      rfl
     refine pure_ (i := 8) (N := some 40) (v := ?_) (a' := ?_) #[true, true, true, true, true, true, true, true, true, false, false, false, false, false, false, false] rfl rfl (any_of HT_.out (by kernel_rfl)) (fun _ _ _ h => h) (Or.inl ⟨by rfl, ?_⟩) ?_ ?_
     rotate_left
     ·intro w'
      go_simp
      with_reducible rfl
     rotate_left
     ·simp only [Act.put, List.setIfInBounds_toArray, List.set_cons_zero, List.set_cons_succ, i64_w, i32_w]
      rfl
     refine pure_ (i := 9) (N := some 41) (v := ?_) (a' := ?_) #[true, true, true, true, true, true, true, true, true, true, false, false, false, false, false, false] rfl rfl (any_of HT_.out (by kernel_rfl)) (fun _ _ _ h => h) (Or.inl ⟨by rfl, ?_⟩) ?_ ?_
     rotate_left
     ·intro w'
      go_simp
      with_reducible rfl
     rotate_left
     ·simp only [Act.put, List.setIfInBounds_toArray, List.set_cons_zero, List.set_cons_succ, i64_w, i32_w]
      rfl
     refine pure_ (i := 10) (N := some 42) (v := undef) (a' := ?_) #[true, true, true, true, true, true, true, true, true, true, true, false, false, false, false, false] rfl rfl (any_of HT_.out (by kernel_rfl)) (fun _ _ _ h => h) (Or.inr ⟨by rfl, rfl⟩) ?_ ?_
     rotate_left
     ·simp only [Act.put, List.setIfInBounds_toArray, List.set_cons_zero, List.set_cons_succ, i64_w, i32_w]
      rfl
     refine pure_ (i := 11) (N := some 43) (v := undef) (a' := ?_) #[true, true, true, true, true, true, true, true, true, true, true, true, false, false, false, false] rfl rfl (any_of HT_.out (by kernel_rfl)) (fun _ _ _ h => h) (Or.inr ⟨by rfl, rfl⟩) ?_ ?_
     rotate_left
     ·simp only [Act.put, List.setIfInBounds_toArray, List.set_cons_zero, List.set_cons_succ, i64_w, i32_w]
      rfl
     refine pure_ (i := 12) (N := some 44) (v := undef) (a' := ?_) #[true, true, true, true, true, true, true, true, true, true, true, true, true, false, false, false] rfl rfl (any_of HT_.out (by kernel_rfl)) (fun _ _ _ h => h) (Or.inr ⟨by rfl, rfl⟩) ?_ ?_
     rotate_left
     ·simp only [Act.put, List.setIfInBounds_toArray, List.set_cons_zero, List.set_cons_succ, i64_w, i32_w]
      rfl
     refine pure_ (i := 13) (N := some 45) (v := undef) (a' := ?_) #[true, true, true, true, true, true, true, true, true, true, true, true, true, true, false, false] rfl rfl (any_of HT_.out (by kernel_rfl)) (fun _ _ _ h => h) (Or.inr ⟨by rfl, rfl⟩) ?_ ?_
     rotate_left
     ·simp only [Act.put, List.setIfInBounds_toArray, List.set_cons_zero, List.set_cons_succ, i64_w, i32_w]
      rfl
     refine pure_ (i := 14) (N := some 46) (v := undef) (a' := ?_) #[true, true, true, true, true, true, true, true, true, true, true, true, true, true, true, false] rfl rfl (any_of HT_.out (by kernel_rfl)) (fun _ _ _ h => h) (Or.inr ⟨by rfl, rfl⟩) ?_ ?_
     rotate_left
     ·simp only [Act.put, List.setIfInBounds_toArray, List.set_cons_zero, List.set_cons_succ, i64_w, i32_w]
      rfl
     refine pure_ (i := 15) (N := some 47) (v := ?_) (a' := ?_) #[true, true, true, true, true, true, true, true, true, true, true, true, true, true, true, true] rfl rfl (any_of HT_.out (by kernel_rfl)) (fun _ _ _ h => h) (Or.inl ⟨by rfl, ?_⟩) ?_ ?_
     rotate_left
     ·intro w'
      go_simp
      with_reducible rfl
     rotate_left
     ·simp only [Act.put, List.setIfInBounds_toArray, List.set_cons_zero, List.set_cons_succ, i64_w, i32_w]
      rfl
     refine done_ (done_of HT_.out (by kernel_rfl)) ?_
     try go_wp2
     go_meet
     case rel => exact ⟨_, (true), (by first | rfl | (simp; done) | (simp [*]; done)), H', ⟨by first | omega | exact Nat.le_refl _⟩, ⟨by (with_reducible repeat (first | apply Kd.S_alloc | apply Kd.S_drewN | apply Kd.S_drew)); exact HO442.out⟩, ⟨by (with_reducible repeat (first | apply Kd.R_alloc | apply Kd.R_drewN | apply Kd.R_drew)); exact HO446.out⟩, ⟨by (with_reducible repeat (first | apply Kd.S_alloc | apply Kd.S_drewN | apply Kd.S_drew)); exact HO452.out⟩, ⟨by (with_reducible repeat (first | apply Kd.S_alloc | apply Kd.S_drewN | apply Kd.S_drew)); exact HO458.out⟩, ⟨by (with_reducible repeat (first | refine blk_drewN ?_ _ | refine blk_drew ?_ | refine blk_alloc ?_ _)); exact BK447.out⟩, ⟨by (with_reducible repeat (first | refine blk_drewN ?_ _ | refine blk_drew ?_ | refine blk_alloc ?_ _)); exact BK448.out⟩, ⟨by (with_reducible repeat (first | refine blk_drewN ?_ _ | refine blk_drew ?_ | refine blk_alloc ?_ _)); exact BK454.out⟩, ⟨by (with_reducible repeat (first | refine blk_drewN ?_ _ | refine blk_drew ?_ | refine blk_alloc ?_ _)); exact BK460.out⟩, ⟨ms HB⟩⟩
  case rest =>
   clear HC7
   try clear p2
   try clear c3
   try clear c31
   try clear c31b0
   try clear c31b1
   try clear c31b2
   try clear c32
   try clear c33
   try clear c34
   try clear c35
   obtain ⟨kq, x47_6, rfl, HA, HJ6, HO_448001, HO_449001, HO_455001, HO_461001, BK447, BK448, BK454, BK460, HB⟩ := hcut
   cases kq with
   | zero => exact absurd HA.out (by simp [laws_FnSystems.j0])
   | succ kj6 =>
    have H := HA.out
    clear HA
    simp only [laws_FnSystems.j0] at H
    by_cases c46 : x47_6 = true
    ·subst c46
     have H1 : (some false) = some r := by rw [if_pos rfl] at H; exact H
     clear H
     have H := H1
     clear H1
     obtain rfl := Option.some.inj H
     go_wp2
     go_ret
     exact ⟨by first | rfl | (simp [errW_none, errW_some] <;> rfl) | (simp [*, errW_none, errW_some] <;> rfl), ms HB⟩
    ·replace c46 := Bool.eq_false_iff.mpr c46
     subst c46
     have H1 : (if t453 = true then (laws_FnSystems.l0 kj6 l0 (([] : List Int)) 0 t439 t440 t443 t444 t449 t450) else ((spec_EqualSystem.f kj6 t449 t450 t439 t440).bind fun t464 => (some t464))) = some r := by rw [if_neg (show ¬ (false = true) by decide)] at H; exact H
     clear H
     have H := H1
     clear H1
     by_cases c47 : t453 = true
     ·subst c47
      have H1 : (laws_FnSystems.l0 kj6 l0 (([] : List Int)) 0 t439 t440 t443 t444 t449 t450) = some r := by rw [if_pos rfl] at H; exact H
      clear H
      have H := H1
      clear H1
      obtain ⟨y465, hy465⟩ : ∃ y_ : List Int, y_ = (([] : List Int)) := ⟨_, rfl⟩
      replace H : (laws_FnSystems.l0 kj6 l0 y465 0 t439 t440 t443 t444 t449 t450) = some r := by first | (rw [hy465]; with_reducible exact H) | (have H2_ := (Option.bind_some _ _).symm.trans H; rw [hy465]; with_reducible exact H2_) | (have H2_ := (Option.bind_some _ _).symm.trans H; with_reducible exact H2_) | with_reducible exact H | (rw [hy465]; exact H) | exact H
      have Ny465 := Aside0.mk hy465
      clear hy465
      have H' := Aside0.mk H
      clear H
      go_wp2_with (first | ((with_reducible refine gate_dst (N := 53) rfl ?_); refine Kd.R_lit (Kd.int .i64) _ 3 ?hg (N := 53) ?hd (xs := ([] : List Int)) (inner := []) (ok := fun _ => True) (okp := fun _ => True) ?hr ?hp (fun _ hk => hk) trivial (Below.refl _ _) (Nat.le_refl _) (by simp) ?_; (case hd => rfl); (case hg => rfl); (case hr => first | (go_simp; done) | (go_simp; rfl)); (case hp => exact (Reps.none _ _)); intro v466 w48 ho49 hb hg_ hnew_; clear hg_ hnew_; (first | rw [← Ny465.out] at ho49 | (simp only [Int.reduceToNat] at ho49; rw [← Ny465.out] at ho49)); have n0_ := Aside0.mk (Kd.S_elder' (by (with_reducible repeat (first | apply Kd.S_alloc | apply Kd.S_drewN | apply Kd.S_drew)); exact HO_448001.out) (Kd.R_base ho49) hb); have n1_ := rl HO_449001 ho49 hb; have n2_ := Aside0.mk (Kd.S_elder' (by (with_reducible repeat (first | apply Kd.S_alloc | apply Kd.S_drewN | apply Kd.S_drew)); exact HO_455001.out) (Kd.R_base ho49) hb); have n3_ := Aside0.mk (Kd.S_elder' (by (with_reducible repeat (first | apply Kd.S_alloc | apply Kd.S_drewN | apply Kd.S_drew)); exact HO_461001.out) (Kd.R_base ho49) hb); have n4_ := Aside0.mk (Kd.R_lower (Kd.R_new' ho49 (Kd.R_lt (mr HO_449001))) (below_size (ms HB))); have n5_ := bb BK447 hb; have n6_ := bb BK448 hb; have n7_ := bb BK454 hb; have n8_ := bb BK460 hb; have n9_ := bs HB hb; clear HO_448001 HO_449001 HO_455001 HO_461001 BK447 BK448 BK454 BK460 HB; have HO_448001 := n0_; have HO_449001 := n1_; have HO_455001 := n2_; have HO_461001 := n3_; have HO467 := n4_; have BK447 := n5_; have BK448 := n6_; have BK454 := n7_; have BK460 := n8_; have HB := n9_; clear n0_ n1_ n2_ n3_ n4_ n5_ n6_ n7_ n8_ n9_; clear hb ho49))
      go_loopg [9, 10] kj6 (fun kq v9 v10 w' => ∃ (x9_2 : List Int) (x10_2 : Int), v10 = .int .i64 x10_2 ∧ Aside0 (laws_FnSystems.l0 kq l0 x9_2 x10_2 t439 t440 t443 t444 t449 t450 = some r) ∧ Aside0 (kq ≤ kj6) ∧ Aside0 (Kd.R (Kd.int .i64) 3 w' w.heap.size (fun k_ => some k_ ≠ ((.slice Ao15 t444.length co15) : Value).ownBlock) v9 x9_2) ∧ Aside0 (Kd.S k36 36 w' w.heap.size (fun k_ => some k_ ≠ (v9 : Value).ownBlock ∧ some k_ ≠ ((.slice Ao15 t444.length co15) : Value).ownBlock ∧ some k_ ≠ ((.slice Ao21 t450.length co21) : Value).ownBlock ∧ some k_ ≠ ((.slice Ao30 t456.length co30) : Value).ownBlock ∧ k_ ≠ gb448) (.slice Ao13 t440.length co13) t440) ∧ Aside0 (Kd.R (Kd.int .i64) 3 w' w.heap.size (fun k_ => some k_ ≠ (v9 : Value).ownBlock) (.slice Ao15 t444.length co15) t444) ∧ Aside0 (Kd.S k36 36 w' w.heap.size (fun k_ => some k_ ≠ (v9 : Value).ownBlock ∧ some k_ ≠ ((.slice Ao13 t440.length co13) : Value).ownBlock ∧ some k_ ≠ ((.slice Ao15 t444.length co15) : Value).ownBlock ∧ some k_ ≠ ((.slice Ao30 t456.length co30) : Value).ownBlock ∧ k_ ≠ gb448) (.slice Ao21 t450.length co21) t450) ∧ Aside0 (Kd.S k36 36 w' w.heap.size (fun k_ => some k_ ≠ (v9 : Value).ownBlock ∧ some k_ ≠ ((.slice Ao13 t440.length co13) : Value).ownBlock ∧ some k_ ≠ ((.slice Ao15 t444.length co15) : Value).ownBlock ∧ some k_ ≠ ((.slice Ao21 t450.length co21) : Value).ownBlock ∧ k_ ≠ gb448) (.slice Ao30 t456.length co30) t456) ∧ Aside0 (w'.heap[gb447]? = some (.cells #[.int .i64 t439, (.slice Ao13 t440.length co13)] 32 (0, 0))) ∧ Aside0 (w'.heap[gb448]? = some (.cells #[.int .i64 t443, (.slice Ao15 t444.length co15)] 36 (0, 0))) ∧ Aside0 (w'.heap[gb454]? = some (.cells #[.int .i64 t449, (.slice Ao21 t450.length co21)] 32 (0, 0))) ∧ Aside0 (w'.heap[gb460]? = some (.cells #[.int .i64 t455, (.slice Ao30 t456.length co30)] 32 (0, 0))) ∧ Aside0 (Below w.heap.size w w'))
      case atStart => exact ⟨(y465), (0), (by first | rfl | (simp; done) | (simp [*]; done)), H', ⟨Nat.le_refl _⟩, ⟨by (with_reducible repeat (first | apply Kd.R_alloc | apply Kd.R_drewN | apply Kd.R_drew)); exact Kd.R_mono HO467.out (fun _ hk => hk.2)⟩, ⟨by (with_reducible repeat (first | apply Kd.S_alloc | apply Kd.S_drewN | apply Kd.S_drew)); exact Kd.S_mono HO_448001.out (fun _ hk => ⟨hk.2, ⟨hk.1.1, ⟨hk.1.2.1, ⟨hk.1.2.2.1, hk.1.2.2.2⟩⟩⟩⟩)⟩, ⟨by (with_reducible repeat (first | apply Kd.R_alloc | apply Kd.R_drewN | apply Kd.R_drew)); exact Kd.R_mono HO_449001.out (fun _ hk => hk.2)⟩, ⟨by (with_reducible repeat (first | apply Kd.S_alloc | apply Kd.S_drewN | apply Kd.S_drew)); exact Kd.S_mono HO_455001.out (fun _ hk => ⟨hk.2, ⟨hk.1.1, ⟨hk.1.2.1, ⟨hk.1.2.2.1, hk.1.2.2.2⟩⟩⟩⟩)⟩, ⟨by (with_reducible repeat (first | apply Kd.S_alloc | apply Kd.S_drewN | apply Kd.S_drew)); exact Kd.S_mono HO_461001.out (fun _ hk => ⟨hk.2, ⟨hk.1.1, ⟨hk.1.2.1, ⟨hk.1.2.2.1, hk.1.2.2.2⟩⟩⟩⟩)⟩, ⟨by (with_reducible repeat (first | refine blk_drewN ?_ _ | refine blk_drew ?_ | refine blk_alloc ?_ _)); exact BK447.out⟩, ⟨by (with_reducible repeat (first | refine blk_drewN ?_ _ | refine blk_drew ?_ | refine blk_alloc ?_ _)); exact BK448.out⟩, ⟨by (with_reducible repeat (first | refine blk_drewN ?_ _ | refine blk_drew ?_ | refine blk_alloc ?_ _)); exact BK454.out⟩, ⟨by (with_reducible repeat (first | refine blk_drewN ?_ _ | refine blk_drew ?_ | refine blk_alloc ?_ _)); exact BK460.out⟩, ⟨ms HB⟩⟩
      case round =>
       clear H'
       try clear p2
       try clear c3
       try clear c4
       try clear c31
       try clear c31b0
       try clear c31b1
       try clear c31b2
       try clear c32
       try clear c33
       try clear c34
       try clear c35
       try clear c46
       try clear c47
       try clear p2
       obtain ⟨x9_2, x10_2, rfl, HA, HK2, HO_9, HO_448001, HO_449001, HO_455001, HO_461001, BK447, BK448, BK454, BK460, HB⟩ := hrel
       cases gk with
       | zero => exact absurd HA.out (by simp [laws_FnSystems.l0])
       | succ k2 =>
        have H := HA.out
        clear HA
        simp only [laws_FnSystems.l0] at H
        by_cases c50 : x10_2 < t439
        ·rw [if_pos c50] at H
         have c50b0 : decide (x10_2 < t439) = true := decide_eq_true c50
         clear c50
         replace H := Option.bind_eq_some_iff.mp H
         obtain ⟨t468, A510, H⟩ := H
         replace H : (if x9_2.length < 17592186044416 then (laws_FnSystems.l0 k2 l0 (x9_2 ++ [wrap64 ((Int.tmod t468 16) - 5)]) (wrap64 (x10_2 + 1)) t439 t440 t443 t444 t449 t450) else (none)) = some r := H
         have A51 := Aside0.mk A510
         clear A510
         by_cases c52 : x9_2.length < 17592186044416
         ·rw [if_pos c52] at H
          have LMc52 := Aside0.mk c52
          clear c52
          obtain ⟨y469, hy469⟩ : ∃ y_ : List Int, y_ = (x9_2 ++ [wrap64 ((Int.tmod t468 16) - 5)]) := ⟨_, rfl⟩
          replace H : (laws_FnSystems.l0 k2 l0 y469 (wrap64 (x10_2 + 1)) t439 t440 t443 t444 t449 t450) = some r := by first | (rw [hy469]; with_reducible exact H) | (have H2_ := (Option.bind_some _ _).symm.trans H; rw [hy469]; with_reducible exact H2_) | (have H2_ := (Option.bind_some _ _).symm.trans H; with_reducible exact H2_) | with_reducible exact H | (rw [hy469]; exact H) | exact H
          have Ny469 := Aside0.mk hy469
          clear hy469
          have H' := Aside0.mk H
          clear H
          have hnb53 := NB447_448.out
          have hnc53 := NB448_447.out
          have hnb54 := NB447_454.out
          have hnc54 := NB454_447.out
          have hnb55 := NB447_460.out
          have hnc55 := NB460_447.out
          obtain ⟨hcz56_0, hcz56_1⟩ := c2 BK447
          have hfz56_0 := blk_frozen BK447.out 0
          have hfz56_1 := blk_frozen BK447.out 1
          go_wp2_with (first | ((with_reducible refine gate_callee (f := 36) rfl ?_); refine goesL_ (some 63) rfl rfl Try.func36 (by kernel_rfl) rfl #[.slice A0 l0.length c0, .int .i64 x10_2] rfl (by (try simp only [List.map_toArray, List.map_cons, List.map_nil]); first | done | rfl | (simp only [List.length_drop, List.length_take]; rfl)) ?_; (with_reducible refine (laws_at0.calls _ _ l0 x10_2 t468 _ ?side1 ?side2 A51.out).mono ?_); (case side1 => exact mc ((Kd.C_below HR0.out HB.out))); (case side2 => exact HC0.out); rintro e w' ⟨rfl, ⟨nd, rfl⟩⟩; refine ⟨_, rfl, ?_⟩) | ((with_reducible refine gate_builtin (b := .append) (xs := #[.tmp 60, .tmp 66]) rfl ?_); at_builtin; refine Kd.R_append (Kd.int .i64) (w0 := w) w.heap.size rfl (.tmp 60) (.tmp 66) 25 3 (.int .i64 0) 8 rfl Try.underlying25 info3 rfl (by decide) (by omega) u9 x9_2 (wrap64 ((Int.tmod t468 16) - 5)) [.int .i64 (wrap64 ((Int.tmod t468 16) - 5))] (fun k_ => some k_ ≠ (.slice Ao15 t444.length co15 : Value).ownBlock) (fun _ => False) rfl rfl ?aP (fun _ hk => hk.elim) ?aF ?aO ?aB ?aS ?aL ?_; (case aP => exact rfl); (case aB => exact (ms HB)); (case aF => exact (fun k_ hk => Kd.fresh' (Kd.R_lt (mr HO_449001)) k_ hk)); (case aO => exact (mr HO_9)); (case aS => exact (below_size (ms HB))); (case aL => have := LMc52.out; omega); intro v470 w57 ho hb hg hat; rw [← Ny469.out] at ho; have n0_ := Aside0.mk (Kd.S_after (ok := (fun k_ => some k_ ≠ (.slice Ao15 t444.length co15 : Value).ownBlock ∧ some k_ ≠ (.slice Ao21 t450.length co21 : Value).ownBlock ∧ some k_ ≠ (.slice Ao30 t456.length co30 : Value).ownBlock ∧ k_ ≠ gb448)) (by (with_reducible repeat (first | apply Kd.S_alloc | apply Kd.S_drewN | apply Kd.S_drew)); exact Kd.S_mono HO_448001.out (fun _ hk => ⟨⟨hk.2.1, ⟨hk.2.2.1, ⟨hk.2.2.2.1, hk.2.2.2.2⟩⟩⟩, hk.1⟩)) hg hat); have n1_ := Aside0.mk (Kd.R_after (ok := (fun _ => True)) (by (with_reducible repeat (first | apply Kd.R_alloc | apply Kd.R_drewN | apply Kd.R_drew)); exact Kd.R_mono HO_449001.out (fun _ hk => ⟨trivial, hk⟩)) hg hat); have n2_ := Aside0.mk (Kd.S_after (ok := (fun k_ => some k_ ≠ (.slice Ao13 t440.length co13 : Value).ownBlock ∧ some k_ ≠ (.slice Ao15 t444.length co15 : Value).ownBlock ∧ some k_ ≠ (.slice Ao30 t456.length co30 : Value).ownBlock ∧ k_ ≠ gb448)) (by (with_reducible repeat (first | apply Kd.S_alloc | apply Kd.S_drewN | apply Kd.S_drew)); exact Kd.S_mono HO_455001.out (fun _ hk => ⟨⟨hk.2.1, ⟨hk.2.2.1, ⟨hk.2.2.2.1, hk.2.2.2.2⟩⟩⟩, hk.1⟩)) hg hat); have n3_ := Aside0.mk (Kd.S_after (ok := (fun k_ => some k_ ≠ (.slice Ao13 t440.length co13 : Value).ownBlock ∧ some k_ ≠ (.slice Ao15 t444.length co15 : Value).ownBlock ∧ some k_ ≠ (.slice Ao21 t450.length co21 : Value).ownBlock ∧ k_ ≠ gb448)) (by (with_reducible repeat (first | apply Kd.S_alloc | apply Kd.S_drewN | apply Kd.S_drew)); exact Kd.S_mono HO_461001.out (fun _ hk => ⟨⟨hk.2.1, ⟨hk.2.2.1, ⟨hk.2.2.2.1, hk.2.2.2.2⟩⟩⟩, hk.1⟩)) hg hat); have n4_ := Aside0.mk (blk_grown (g := gb447) (o := .cells #[.int .i64 t439, .slice Ao13 t440.length co13] 32 (0, 0)) (mb BK447) hg (Kd.R_ne HO_9.out BK447.out (by decide))); have n5_ := Aside0.mk (blk_grown (g := gb448) (o := .cells #[.int .i64 t443, .slice Ao15 t444.length co15] 36 (0, 0)) (mb BK448) hg (Kd.R_ne HO_9.out BK448.out (by decide))); have n6_ := Aside0.mk (blk_grown (g := gb454) (o := .cells #[.int .i64 t449, .slice Ao21 t450.length co21] 32 (0, 0)) (mb BK454) hg (Kd.R_ne HO_9.out BK454.out (by decide))); have n7_ := Aside0.mk (blk_grown (g := gb460) (o := .cells #[.int .i64 t455, .slice Ao30 t456.length co30] 32 (0, 0)) (mb BK460) hg (Kd.R_ne HO_9.out BK460.out (by decide))); have n8_ := Aside0.mk (hb); have n9_ := Aside0.mk (ho); clear HO_448001 HO_449001 HO_455001 HO_461001 BK447 BK448 BK454 BK460 HB HO_9; have HO_448001 := n0_; have HO_449001 := n1_; have HO_455001 := n2_; have HO_461001 := n3_; have BK447 := n4_; have BK448 := n5_; have BK454 := n6_; have BK460 := n7_; have HB := n8_; have HO471 := n9_; clear n0_ n1_ n2_ n3_ n4_ n5_ n6_ n7_ n8_ n9_; clear ho hb hg hat))
          go_roundg k2
          case measure => have := HJ6.out; have := HK2.out; omega
          case rel => exact ⟨(y469), (wrap64 (x10_2 + 1)), (by first | rfl | (simp; done) | (simp [*]; done)), H', ⟨by have := HJ6.out; have := HK2.out; omega⟩, ⟨by (with_reducible repeat (first | apply Kd.R_alloc | apply Kd.R_drewN | apply Kd.R_drew)); exact HO471.out⟩, ⟨by (with_reducible repeat (first | apply Kd.S_alloc | apply Kd.S_drewN | apply Kd.S_drew)); exact Kd.S_mono HO_448001.out (fun _ hk => ⟨hk.2, ⟨hk.1.1, ⟨hk.1.2.1, ⟨hk.1.2.2.1, hk.1.2.2.2⟩⟩⟩⟩)⟩, ⟨by (with_reducible repeat (first | apply Kd.R_alloc | apply Kd.R_drewN | apply Kd.R_drew)); exact Kd.R_mono HO_449001.out (fun _ hk => hk.2)⟩, ⟨by (with_reducible repeat (first | apply Kd.S_alloc | apply Kd.S_drewN | apply Kd.S_drew)); exact Kd.S_mono HO_455001.out (fun _ hk => ⟨hk.2, ⟨hk.1.1, ⟨hk.1.2.1, ⟨hk.1.2.2.1, hk.1.2.2.2⟩⟩⟩⟩)⟩, ⟨by (with_reducible repeat (first | apply Kd.S_alloc | apply Kd.S_drewN | apply Kd.S_drew)); exact Kd.S_mono HO_461001.out (fun _ hk => ⟨hk.2, ⟨hk.1.1, ⟨hk.1.2.1, ⟨hk.1.2.2.1, hk.1.2.2.2⟩⟩⟩⟩)⟩, ⟨by (with_reducible repeat (first | refine blk_drewN ?_ _ | refine blk_drew ?_ | refine blk_alloc ?_ _)); exact BK447.out⟩, ⟨by (with_reducible repeat (first | refine blk_drewN ?_ _ | refine blk_drew ?_ | refine blk_alloc ?_ _)); exact BK448.out⟩, ⟨by (with_reducible repeat (first | refine blk_drewN ?_ _ | refine blk_drew ?_ | refine blk_alloc ?_ _)); exact BK454.out⟩, ⟨by (with_reducible repeat (first | refine blk_drewN ?_ _ | refine blk_drew ?_ | refine blk_alloc ?_ _)); exact BK460.out⟩, ⟨ms HB⟩⟩
         ·rw [if_neg c52] at H
          exact absurd H (by simp)
        ·rw [if_neg c50] at H
         have c50b0 : decide (x10_2 < t439) = false := decide_eq_false c50
         clear c50
         replace H := Option.bind_eq_some_iff.mp H
         obtain ⟨⟨t472, t473⟩, A580, H⟩ := H
         replace H : ((impl_Satisfies.f k2 t449 t450 x9_2).bind fun t474 => ((impl_Satisfies.f k2 t439 t440 x9_2).bind fun t475 => (if t475 = true then (if (t474 == (decide (t472 ≥ 0))) = true then ((impl_Satisfies.f k2 t439 t440 x9_2).bind fun t476 => ((spec_Satisfies.f k2 t439 t440 x9_2).bind fun t477 => (some (t476 == t477)))) else (some false)) else (if (t474 == false) = true then ((impl_Satisfies.f k2 t439 t440 x9_2).bind fun t478 => ((spec_Satisfies.f k2 t439 t440 x9_2).bind fun t479 => (some (t478 == t479)))) else (some false))))) = some r := H
         have A58 := Aside0.mk A580
         clear A580
         replace H := Option.bind_eq_some_iff.mp H
         obtain ⟨t474, A590, H⟩ := H
         replace H : ((impl_Satisfies.f k2 t439 t440 x9_2).bind fun t475 => (if t475 = true then (if (t474 == (decide (t472 ≥ 0))) = true then ((impl_Satisfies.f k2 t439 t440 x9_2).bind fun t476 => ((spec_Satisfies.f k2 t439 t440 x9_2).bind fun t477 => (some (t476 == t477)))) else (some false)) else (if (t474 == false) = true then ((impl_Satisfies.f k2 t439 t440 x9_2).bind fun t478 => ((spec_Satisfies.f k2 t439 t440 x9_2).bind fun t479 => (some (t478 == t479)))) else (some false)))) = some r := H
         have A59 := Aside0.mk A590
         clear A590
         replace H := Option.bind_eq_some_iff.mp H
         obtain ⟨t475, A600, H⟩ := H
         replace H : (if t475 = true then (if (t474 == (decide (t472 ≥ 0))) = true then ((impl_Satisfies.f k2 t439 t440 x9_2).bind fun t476 => ((spec_Satisfies.f k2 t439 t440 x9_2).bind fun t477 => (some (t476 == t477)))) else (some false)) else (if (t474 == false) = true then ((impl_Satisfies.f k2 t439 t440 x9_2).bind fun t478 => ((spec_Satisfies.f k2 t439 t440 x9_2).bind fun t479 => (some (t478 == t479)))) else (some false))) = some r := H
         have A60 := Aside0.mk A600
         clear A600
         by_cases c61 : t475 = true
         ·subst c61
          have H1 : (if (t474 == (decide (t472 ≥ 0))) = true then ((impl_Satisfies.f k2 t439 t440 x9_2).bind fun t476 => ((spec_Satisfies.f k2 t439 t440 x9_2).bind fun t477 => (some (t476 == t477)))) else (some false)) = some r := by rw [if_pos rfl] at H; exact H
          clear H
          have H := H1
          clear H1
          by_cases c62 : (t474 == (decide (t472 ≥ 0))) = true
          ·rw [if_pos c62] at H
           have c62b0 : (t474 == (decide (t472 ≥ 0))) = true := c62
           (try (have c62b1 : decide (t474 = (decide (t472 ≥ 0))) = true := by simpa using c62))
           (try (have c62b2 : (t474 == (decide (t472 ≥ 0))) = true := by simpa using c62))
           clear c62
           replace H := Option.bind_eq_some_iff.mp H
           obtain ⟨t476, A630, H⟩ := H
           replace H : ((spec_Satisfies.f k2 t439 t440 x9_2).bind fun t477 => (some (t476 == t477))) = some r := H
           have A63 := Aside0.mk A630
           clear A630
           replace H := Option.bind_eq_some_iff.mp H
           obtain ⟨t477, A640, H⟩ := H
           replace H : (some (t476 == t477)) = some r := H
           have A64 := Aside0.mk A640
           clear A640
           obtain rfl := Option.some.inj H
           have hnb65 := NB447_448.out
           have hnc65 := NB448_447.out
           have hnb66 := NB447_454.out
           have hnc66 := NB454_447.out
           have hnb67 := NB447_460.out
           have hnc67 := NB460_447.out
           obtain ⟨hcz68_0, hcz68_1⟩ := c2 BK447
           have hfz68_0 := blk_frozen BK447.out 0
           have hfz68_1 := blk_frozen BK447.out 1
           have hnb69 := NB448_454.out
           have hnc69 := NB454_448.out
           have hnb70 := NB448_460.out
           have hnc70 := NB460_448.out
           obtain ⟨hcz71_0, hcz71_1⟩ := c2 BK448
           have hfz71_0 := blk_frozen BK448.out 0
           have hfz71_1 := blk_frozen BK448.out 1
           obtain ⟨Ao72, co72, eo72⟩ := Kd.R_slice HO_9.out
           subst eo72
           try go_wp2_with (first | ((with_reducible refine gate_callee (f := 37) rfl ?_); refine goesL_ (some 71) rfl rfl Try.func37 (by kernel_rfl) rfl #[.agg #[.int .i64 t443, .slice Ao15 t444.length co15], .slice Ao72 x9_2.length co72] rfl (by (try simp only [List.map_toArray, List.map_cons, List.map_nil]); first | done | rfl | (simp only [List.length_drop, List.length_take]; rfl)) ?_; (with_reducible refine (spec_EvalLin.calls k2 t443 _ _ t444 _ _ x9_2 t472 t473 _ ?side1 ?side2 ?side3 ?side4 A58.out).mono ?_); (case side1 => exact mc ((Kd.R_reads' HO_449001.out).2.2)); (case side2 => exact (Kd.R_reads' HO_449001.out).2.1); (case side3 => exact mc ((Kd.R_reads' HO_9.out).2.2)); (case side4 => exact (Kd.R_reads' HO_9.out).2.1); rintro e w73 ⟨rfl, hb⟩; refine ⟨_, rfl, ?_⟩; have n0_ := rb HO_9 hb; have n1_ := Aside0.mk (Kd.S_below (by (with_reducible repeat (first | apply Kd.S_alloc | apply Kd.S_drewN | apply Kd.S_drew)); exact HO_448001.out) hb); have n2_ := rb HO_449001 hb; have n3_ := Aside0.mk (Kd.S_below (by (with_reducible repeat (first | apply Kd.S_alloc | apply Kd.S_drewN | apply Kd.S_drew)); exact HO_455001.out) hb); have n4_ := Aside0.mk (Kd.S_below (by (with_reducible repeat (first | apply Kd.S_alloc | apply Kd.S_drewN | apply Kd.S_drew)); exact HO_461001.out) hb); have n5_ := bb BK447 hb; have n6_ := bb BK448 hb; have n7_ := bb BK454 hb; have n8_ := bb BK460 hb; have n9_ := bs HB hb; clear HO_9 HO_448001 HO_449001 HO_455001 HO_461001 BK447 BK448 BK454 BK460 HB; have HO_9 := n0_; have HO_448001 := n1_; have HO_449001 := n2_; have HO_455001 := n3_; have HO_461001 := n4_; have BK447 := n5_; have BK448 := n6_; have BK454 := n7_; have BK460 := n8_; have HB := n9_; clear n0_ n1_ n2_ n3_ n4_ n5_ n6_ n7_ n8_ n9_; (try clear hb)))
           replace HO_9 := Aside0.mk (Kd.R_drew HO_9.out)
           replace HO_448001 := Aside0.mk (Kd.S_drew HO_448001.out)
           replace HO_449001 := Aside0.mk (Kd.R_drew HO_449001.out)
           replace HO_455001 := Aside0.mk (Kd.S_drew HO_455001.out)
           replace HO_461001 := Aside0.mk (Kd.S_drew HO_461001.out)
           replace BK447 := Aside0.mk (blk_drew BK447.out)
           replace BK448 := Aside0.mk (blk_drew BK448.out)
           replace BK454 := Aside0.mk (blk_drew BK454.out)
           replace BK460 := Aside0.mk (blk_drew BK460.out)
           replace HB := Aside0.mk (below_drew1 HB.out)
           refine start_ (n := 21) (S := fun w' => w'.cell? ⟨gb454, 0, none⟩ = some (.int .i64 t449) ∧ w'.cell? ⟨gb454, 1, none⟩ = some (.slice Ao21 t450.length co21) ∧ w'.cell? ⟨gb447, 0, none⟩ = some (.int .i64 t439) ∧ w'.cell? ⟨gb447, 1, none⟩ = some (.slice Ao13 t440.length co13)) (ds := []) #[false, false, false, false, false, false, false, false, false, false, false, false, false, false, false, false, false, false, false, false, false] (by kernel_rfl) rfl rfl ⟨(c2 BK454).1, (c2 BK454).2, (c2 BK447).1, (c2 BK447).2⟩ (fun hHeld => ?_); refine with_tabW laws_FnSystems.tab16 laws_FnSystems.bits16 (fun HT_ HW_ => ?_)
           generalize w73.drew = w74 at HO_9 HO_448001 HO_449001 HO_455001 HO_461001 BK447 BK448 BK454 BK460 HB hHeld ⊢
           refine pure_ (i := 1) (N := some 75) (v := ?_) (a' := ?_) #[false, true, false, false, false, false, false, false, false, false, false, false, false, false, false, false, false, false, false, false, false] rfl rfl (any_of HT_.out (by kernel_rfl)) (fun _ _ _ h => h) (Or.inl ⟨by rfl, ?_⟩) ?_ ?_
           rotate_left
           ·intro w'
            go_simp
            with_reducible rfl
           rotate_left
           ·simp only [Act.put, List.setIfInBounds_toArray, List.set_cons_zero, List.set_cons_succ, i64_w, i32_w]
            rfl
           refine pure_ (i := 4) (N := some 78) (v := ?_) (a' := ?_) #[false, true, false, false, true, false, false, false, false, false, false, false, false, false, false, false, false, false, false, false, false] rfl rfl (any_of HT_.out (by kernel_rfl)) (fun _ _ _ h => h) (Or.inl ⟨by rfl, ?_⟩) ?_ ?_
           rotate_left
           ·intro w'
            go_simp
            with_reducible rfl
           rotate_left
           ·simp only [Act.put, List.setIfInBounds_toArray, List.set_cons_zero, List.set_cons_succ, i64_w, i32_w]
            rfl
           refine take_ (i := 0) (N := some 74) (v := ?_) (a' := ?_) #[true, true, false, false, true, false, false, false, false, false, false, false, false, false, false, false, false, false, false, false, false] rfl rfl (take_ofW HT_.out HW_.out (by kernel_rfl)) (fun _ _ _ h => h) (Or.inl ⟨by rfl, ?_⟩) hHeld ?_ ?_
           rotate_left
           ·rintro w' ⟨s0, s1, s2, s3⟩
            go_simp
            with_reducible rfl
           rotate_left
           ·simp only [Act.put, List.setIfInBounds_toArray, List.set_cons_zero, List.set_cons_succ, i64_w, i32_w]
            rfl
           refine take_ (i := 3) (N := some 77) (v := ?_) (a' := ?_) #[true, true, false, true, true, false, false, false, false, false, false, false, false, false, false, false, false, false, false, false, false] rfl rfl (take_ofW HT_.out HW_.out (by kernel_rfl)) (fun _ _ _ h => h) (Or.inl ⟨by rfl, ?_⟩) hHeld ?_ ?_
           rotate_left
           ·rintro w' ⟨s0, s1, s2, s3⟩
            go_simp
            with_reducible rfl
           rotate_left
           ·simp only [Act.put, List.setIfInBounds_toArray, List.set_cons_zero, List.set_cons_succ, i64_w, i32_w]
            rfl
           refine one_ (i := 2) (N := some 76) #[true, true, true, true, true, false, false, false, false, false, false, false, false, false, false, false, false, false, false, false, false] rfl rfl (one_of HT_.out (by kernel_rfl)) (by decide) (fun K hK => ?_)
           refine goes_ Try.func38 (by kernel_rfl) rfl #[.agg #[.int .i64 t449, .slice Ao21 t450.length co21], .slice Ao72 x9_2.length co72] (by rfl) rfl rfl (by (try simp only [List.map_toArray, List.map_cons, List.map_nil]); first | done | rfl | (simp only [List.length_drop, List.length_take]; rfl)) ?_
           with_reducible refine (impl_Satisfies.calls k2 t449 _ _ t450 _ _ x9_2 t474 _ ?side1 ?side2 ?side3 ?side4 A59.out).mono ?_
           (case side1 => exact mc ((Kd.S_reads' HO_455001.out).2.2))
           (case side2 => exact (Kd.S_reads' HO_455001.out).2.1)
           (case side3 => exact mc ((Kd.R_reads' HO_9.out).2.2))
           (case side4 => exact (Kd.R_reads' HO_9.out).2.1)
           rintro e w75 ⟨rfl, hb⟩
           refine ⟨_, rfl, ?_⟩
           have n0_ := rb HO_9 hb
           have n1_ := Aside0.mk (Kd.S_below (by (with_reducible repeat (first | apply Kd.S_alloc | apply Kd.S_drewN | apply Kd.S_drew)); exact HO_448001.out) hb)
           have n2_ := rb HO_449001 hb
           have n3_ := Aside0.mk (Kd.S_below (by (with_reducible repeat (first | apply Kd.S_alloc | apply Kd.S_drewN | apply Kd.S_drew)); exact HO_455001.out) hb)
           have n4_ := Aside0.mk (Kd.S_below (by (with_reducible repeat (first | apply Kd.S_alloc | apply Kd.S_drewN | apply Kd.S_drew)); exact HO_461001.out) hb)
           have n5_ := bb BK447 hb
           have n6_ := bb BK448 hb
           have n7_ := bb BK454 hb
           have n8_ := bb BK460 hb
           have n9_ := bs HB hb
           clear HO_9
           clear HO_448001
           clear HO_449001
           clear HO_455001
           clear HO_461001
           clear BK447
           clear BK448
           clear BK454
           clear BK460
           clear HB
           have HO_9 := n0_
           have HO_448001 := n1_
           have HO_449001 := n2_
           have HO_455001 := n3_
           have HO_461001 := n4_
           have BK447 := n5_
           have BK448 := n6_
           have BK454 := n7_
           have BK460 := n8_
           have HB := n9_
           clear n0_ n1_ n2_ n3_ n4_ n5_ n6_ n7_ n8_ n9_
           (try clear hb)
           (try clear hb2)
           (try clear hk)
           (try clear hi)
           refine hK.out _ _ ⟨(c2 BK454).1, (c2 BK454).2, (c2 BK447).1, (c2 BK447).2⟩ (fun hHeld => ?_)
           clear hK K
           refine norm_ (a' := ?_) ?_ ?_
           rotate_left
           ·show Act.put _ (some 76) _ = _
            simp only [Act.put, List.setIfInBounds_toArray, List.set_cons_zero, List.set_cons_succ, i64_w, i32_w]
            rfl
           refine one_ (i := 5) (N := some 79) #[true, true, true, true, true, true, false, false, false, false, false, false, false, false, false, false, false, false, false, false, false] rfl rfl (one_of HT_.out (by kernel_rfl)) (by decide) (fun K hK => ?_)
           refine goes_ Try.func38 (by kernel_rfl) rfl #[.agg #[.int .i64 t439, .slice Ao13 t440.length co13], .slice Ao72 x9_2.length co72] (by rfl) rfl rfl (by (try simp only [List.map_toArray, List.map_cons, List.map_nil]); first | done | rfl | (simp only [List.length_drop, List.length_take]; rfl)) ?_
           with_reducible refine (impl_Satisfies.calls k2 t439 _ _ t440 _ _ x9_2 true _ ?side1 ?side2 ?side3 ?side4 A60.out).mono ?_
           (case side1 => exact mc ((Kd.S_reads' HO_448001.out).2.2))
           (case side2 => exact (Kd.S_reads' HO_448001.out).2.1)
           (case side3 => exact mc ((Kd.R_reads' HO_9.out).2.2))
           (case side4 => exact (Kd.R_reads' HO_9.out).2.1)
           rintro e w76 ⟨rfl, hb⟩
           refine ⟨_, rfl, ?_⟩
           have n0_ := rb HO_9 hb
           have n1_ := Aside0.mk (Kd.S_below (by (with_reducible repeat (first | apply Kd.S_alloc | apply Kd.S_drewN | apply Kd.S_drew)); exact HO_448001.out) hb)
           have n2_ := rb HO_449001 hb
           have n3_ := Aside0.mk (Kd.S_below (by (with_reducible repeat (first | apply Kd.S_alloc | apply Kd.S_drewN | apply Kd.S_drew)); exact HO_455001.out) hb)
           have n4_ := Aside0.mk (Kd.S_below (by (with_reducible repeat (first | apply Kd.S_alloc | apply Kd.S_drewN | apply Kd.S_drew)); exact HO_461001.out) hb)
           have n5_ := bb BK447 hb
           have n6_ := bb BK448 hb
           have n7_ := bb BK454 hb
           have n8_ := bb BK460 hb
           have n9_ := bs HB hb
           clear HO_9
           clear HO_448001
           clear HO_449001
           clear HO_455001
           clear HO_461001
           clear BK447
           clear BK448
           clear BK454
           clear BK460
           clear HB
           have HO_9 := n0_
           have HO_448001 := n1_
           have HO_449001 := n2_
           have HO_455001 := n3_
           have HO_461001 := n4_
           have BK447 := n5_
           have BK448 := n6_
           have BK454 := n7_
           have BK460 := n8_
           have HB := n9_
           clear n0_ n1_ n2_ n3_ n4_ n5_ n6_ n7_ n8_ n9_
           (try clear hb)
           (try clear hb2)
           (try clear hk)
           (try clear hi)
           refine hK.out _ _ ⟨(c2 BK454).1, (c2 BK454).2, (c2 BK447).1, (c2 BK447).2⟩ (fun hHeld => ?_)
           clear hK K
           refine norm_ (a' := ?_) ?_ ?_
           rotate_left
           ·show Act.put _ (some 79) _ = _
            simp only [Act.put, List.setIfInBounds_toArray, List.set_cons_zero, List.set_cons_succ, i64_w, i32_w]
            rfl
           refine pure_ (i := 6) (N := some 80) (v := ?_) (a' := ?_) #[true, true, true, true, true, true, true, false, false, false, false, false, false, false, false, false, false, false, false, false, false] rfl rfl (any_of HT_.out (by kernel_rfl)) (fun _ _ _ h => h) (Or.inl ⟨by rfl, ?_⟩) ?_ ?_
           rotate_left
           ·intro w'
            go_simp
            with_reducible rfl
           rotate_left
           ·simp only [Act.put, List.setIfInBounds_toArray, List.set_cons_zero, List.set_cons_succ, i64_w, i32_w]
            rfl
           refine pure_ (i := 7) (N := some 81) (v := ?_) (a' := ?_) #[true, true, true, true, true, true, true, true, false, false, false, false, false, false, false, false, false, false, false, false, false] rfl rfl (any_of HT_.out (by kernel_rfl)) (fun _ _ _ h => h) (Or.inl ⟨by rfl, ?_⟩) ?_ ?_
           rotate_left
           ·intro w'
            go_simp
            with_reducible rfl
           rotate_left
           ·simp only [Act.put, List.setIfInBounds_toArray, List.set_cons_zero, List.set_cons_succ, i64_w, i32_w]
            rfl
           refine pure_ (i := 8) (N := some 82) (v := ?_) (a' := ?_) #[true, true, true, true, true, true, true, true, true, false, false, false, false, false, false, false, false, false, false, false, false] rfl rfl (any_of HT_.out (by kernel_rfl)) (fun _ _ _ h => h) (Or.inl ⟨by rfl, ?_⟩) ?_ ?_
           rotate_left
           ·intro w'
            go_simp
            with_reducible rfl
           rotate_left
           ·simp only [Act.put, List.setIfInBounds_toArray, List.set_cons_zero, List.set_cons_succ, i64_w, i32_w]
            rfl
           refine pure_ (i := 9) (N := some 83) (v := ?_) (a' := ?_) #[true, true, true, true, true, true, true, true, true, true, false, false, false, false, false, false, false, false, false, false, false] rfl rfl (any_of HT_.out (by kernel_rfl)) (fun _ _ _ h => h) (Or.inl ⟨by rfl, ?_⟩) ?_ ?_
           rotate_left
           ·intro w'
            go_simp
            with_reducible rfl
           rotate_left
           ·simp only [Act.put, List.setIfInBounds_toArray, List.set_cons_zero, List.set_cons_succ, i64_w, i32_w]
            rfl
           refine pure_ (i := 10) (N := some 84) (v := ?_) (a' := ?_) #[true, true, true, true, true, true, true, true, true, true, true, false, false, false, false, false, false, false, false, false, false] rfl rfl (any_of HT_.out (by kernel_rfl)) (fun _ _ _ h => h) (Or.inl ⟨by rfl, ?_⟩) ?_ ?_
           rotate_left
           ·intro w'
            go_simp
            with_reducible rfl
           rotate_left
           ·simp only [Act.put, List.setIfInBounds_toArray, List.set_cons_zero, List.set_cons_succ, i64_w, i32_w]
            rfl
           refine pure_ (i := 11) (N := some 85) (v := ?_) (a' := ?_) #[true, true, true, true, true, true, true, true, true, true, true, true, false, false, false, false, false, false, false, false, false] rfl rfl (any_of HT_.out (by kernel_rfl)) (fun _ _ _ h => h) (Or.inl ⟨by rfl, ?_⟩) ?_ ?_
           rotate_left
           ·intro w'
            go_simp
            with_reducible rfl
           rotate_left
           ·simp only [Act.put, List.setIfInBounds_toArray, List.set_cons_zero, List.set_cons_succ, i64_w, i32_w]
            rfl
           refine pure_ (i := 13) (N := some 87) (v := ?_) (a' := ?_) #[true, true, true, true, true, true, true, true, true, true, true, true, false, true, false, false, false, false, false, false, false] rfl rfl (any_of HT_.out (by kernel_rfl)) (fun _ _ _ h => h) (Or.inl ⟨by rfl, ?_⟩) ?_ ?_
           rotate_left
           ·intro w'
            go_simp
            with_reducible rfl
           rotate_left
           ·simp only [Act.put, List.setIfInBounds_toArray, List.set_cons_zero, List.set_cons_succ, i64_w, i32_w]
            rfl
           refine pure_ (i := 16) (N := some 90) (v := ?_) (a' := ?_) #[true, true, true, true, true, true, true, true, true, true, true, true, false, true, false, false, true, false, false, false, false] rfl rfl (any_of HT_.out (by kernel_rfl)) (fun _ _ _ h => h) (Or.inl ⟨by rfl, ?_⟩) ?_ ?_
           rotate_left
           ·intro w'
            go_simp
            with_reducible rfl
           rotate_left
           ·simp only [Act.put, List.setIfInBounds_toArray, List.set_cons_zero, List.set_cons_succ, i64_w, i32_w]
            rfl
           refine take_ (i := 12) (N := some 86) (v := ?_) (a' := ?_) #[true, true, true, true, true, true, true, true, true, true, true, true, true, true, false, false, true, false, false, false, false] rfl rfl (take_ofW HT_.out HW_.out (by kernel_rfl)) (fun _ _ _ h => h) (Or.inl ⟨by rfl, ?_⟩) hHeld ?_ ?_
           rotate_left
           ·rintro w' ⟨s0, s1, s2, s3⟩
            go_simp
            with_reducible rfl
           rotate_left
           ·simp only [Act.put, List.setIfInBounds_toArray, List.set_cons_zero, List.set_cons_succ, i64_w, i32_w]
            rfl
           refine take_ (i := 15) (N := some 89) (v := ?_) (a' := ?_) #[true, true, true, true, true, true, true, true, true, true, true, true, true, true, false, true, true, false, false, false, false] rfl rfl (take_ofW HT_.out HW_.out (by kernel_rfl)) (fun _ _ _ h => h) (Or.inl ⟨by rfl, ?_⟩) hHeld ?_ ?_
           rotate_left
           ·rintro w' ⟨s0, s1, s2, s3⟩
            go_simp
            with_reducible rfl
           rotate_left
           ·simp only [Act.put, List.setIfInBounds_toArray, List.set_cons_zero, List.set_cons_succ, i64_w, i32_w]
            rfl
           refine one_ (i := 14) (N := some 88) #[true, true, true, true, true, true, true, true, true, true, true, true, true, true, true, true, true, false, false, false, false] rfl rfl (one_of HT_.out (by kernel_rfl)) (by decide) (fun K hK => ?_)
           refine goes_ Try.func38 (by kernel_rfl) rfl #[.agg #[.int .i64 t439, .slice Ao13 t440.length co13], .slice Ao72 x9_2.length co72] (by rfl) rfl rfl (by (try simp only [List.map_toArray, List.map_cons, List.map_nil]); first | done | rfl | (simp only [List.length_drop, List.length_take]; rfl)) ?_
           with_reducible refine (impl_Satisfies.calls k2 t439 _ _ t440 _ _ x9_2 t476 _ ?side1 ?side2 ?side3 ?side4 A63.out).mono ?_
           (case side1 => exact mc ((Kd.S_reads' HO_448001.out).2.2))
           (case side2 => exact (Kd.S_reads' HO_448001.out).2.1)
           (case side3 => exact mc ((Kd.R_reads' HO_9.out).2.2))
           (case side4 => exact (Kd.R_reads' HO_9.out).2.1)
           rintro e w77 ⟨rfl, hb⟩
           refine ⟨_, rfl, ?_⟩
           have n0_ := rb HO_9 hb
           have n1_ := Aside0.mk (Kd.S_below (by (with_reducible repeat (first | apply Kd.S_alloc | apply Kd.S_drewN | apply Kd.S_drew)); exact HO_448001.out) hb)
           have n2_ := rb HO_449001 hb
           have n3_ := Aside0.mk (Kd.S_below (by (with_reducible repeat (first | apply Kd.S_alloc | apply Kd.S_drewN | apply Kd.S_drew)); exact HO_455001.out) hb)
           have n4_ := Aside0.mk (Kd.S_below (by (with_reducible repeat (first | apply Kd.S_alloc | apply Kd.S_drewN | apply Kd.S_drew)); exact HO_461001.out) hb)
           have n5_ := bb BK447 hb
           have n6_ := bb BK448 hb
           have n7_ := bb BK454 hb
           have n8_ := bb BK460 hb
           have n9_ := bs HB hb
           clear HO_9
           clear HO_448001
           clear HO_449001
           clear HO_455001
           clear HO_461001
           clear BK447
           clear BK448
           clear BK454
           clear BK460
           clear HB
           have HO_9 := n0_
           have HO_448001 := n1_
           have HO_449001 := n2_
           have HO_455001 := n3_
           have HO_461001 := n4_
           have BK447 := n5_
           have BK448 := n6_
           have BK454 := n7_
           have BK460 := n8_
           have HB := n9_
           clear n0_ n1_ n2_ n3_ n4_ n5_ n6_ n7_ n8_ n9_
           (try clear hb)
           (try clear hb2)
           (try clear hk)
           (try clear hi)
           refine hK.out _ _ ⟨(c2 BK454).1, (c2 BK454).2, (c2 BK447).1, (c2 BK447).2⟩ (fun hHeld => ?_)
           clear hK K
           refine norm_ (a' := ?_) ?_ ?_
           rotate_left
           ·show Act.put _ (some 88) _ = _
            simp only [Act.put, List.setIfInBounds_toArray, List.set_cons_zero, List.set_cons_succ, i64_w, i32_w]
            rfl
           refine one_ (i := 17) (N := some 91) #[true, true, true, true, true, true, true, true, true, true, true, true, true, true, true, true, true, true, false, false, false] rfl rfl (one_of HT_.out (by kernel_rfl)) (by decide) (fun K hK => ?_)
           refine goes_ Try.func39 (by kernel_rfl) rfl #[.agg #[.int .i64 t439, .slice Ao13 t440.length co13], .slice Ao72 x9_2.length co72] (by rfl) rfl rfl (by (try simp only [List.map_toArray, List.map_cons, List.map_nil]); first | done | rfl | (simp only [List.length_drop, List.length_take]; rfl)) ?_
           with_reducible refine (spec_Satisfies.calls k2 t439 _ _ t440 _ _ x9_2 t477 _ ?side1 ?side2 ?side3 ?side4 A64.out).mono ?_
           (case side1 => exact mc ((Kd.S_reads' HO_448001.out).2.2))
           (case side2 => exact (Kd.S_reads' HO_448001.out).2.1)
           (case side3 => exact mc ((Kd.R_reads' HO_9.out).2.2))
           (case side4 => exact (Kd.R_reads' HO_9.out).2.1)
           rintro e w78 ⟨rfl, hb⟩
           refine ⟨_, rfl, ?_⟩
           have n0_ := rb HO_9 hb
           have n1_ := Aside0.mk (Kd.S_below (by (with_reducible repeat (first | apply Kd.S_alloc | apply Kd.S_drewN | apply Kd.S_drew)); exact HO_448001.out) hb)
           have n2_ := rb HO_449001 hb
           have n3_ := Aside0.mk (Kd.S_below (by (with_reducible repeat (first | apply Kd.S_alloc | apply Kd.S_drewN | apply Kd.S_drew)); exact HO_455001.out) hb)
           have n4_ := Aside0.mk (Kd.S_below (by (with_reducible repeat (first | apply Kd.S_alloc | apply Kd.S_drewN | apply Kd.S_drew)); exact HO_461001.out) hb)
           have n5_ := bb BK447 hb
           have n6_ := bb BK448 hb
           have n7_ := bb BK454 hb
           have n8_ := bb BK460 hb
           have n9_ := bs HB hb
           clear HO_9
           clear HO_448001
           clear HO_449001
           clear HO_455001
           clear HO_461001
           clear BK447
           clear BK448
           clear BK454
           clear BK460
           clear HB
           have HO_9 := n0_
           have HO_448001 := n1_
           have HO_449001 := n2_
           have HO_455001 := n3_
           have HO_461001 := n4_
           have BK447 := n5_
           have BK448 := n6_
           have BK454 := n7_
           have BK460 := n8_
           have HB := n9_
           clear n0_ n1_ n2_ n3_ n4_ n5_ n6_ n7_ n8_ n9_
           (try clear hb)
           (try clear hb2)
           (try clear hk)
           (try clear hi)
           refine hK.out _ _ ⟨(c2 BK454).1, (c2 BK454).2, (c2 BK447).1, (c2 BK447).2⟩ (fun hHeld => ?_)
           clear hK K
           refine norm_ (a' := ?_) ?_ ?_
           rotate_left
           ·show Act.put _ (some 91) _ = _
            simp only [Act.put, List.setIfInBounds_toArray, List.set_cons_zero, List.set_cons_succ, i64_w, i32_w]
            rfl
           refine pure_ (i := 18) (N := some 92) (v := ?_) (a' := ?_) #[true, true, true, true, true, true, true, true, true, true, true, true, true, true, true, true, true, true, true, false, false] rfl rfl (any_of HT_.out (by kernel_rfl)) (fun _ _ _ h => h) (Or.inl ⟨by rfl, ?_⟩) ?_ ?_
           rotate_left
           ·intro w'
            go_simp
            with_reducible rfl
           rotate_left
           ·simp only [Act.put, List.setIfInBounds_toArray, List.set_cons_zero, List.set_cons_succ, i64_w, i32_w]
            rfl
           refine pure_ (i := 19) (N := some 93) (v := ?_) (a' := ?_) #[true, true, true, true, true, true, true, true, true, true, true, true, true, true, true, true, true, true, true, true, false] rfl rfl (any_of HT_.out (by kernel_rfl)) (fun _ _ _ h => h) (Or.inl ⟨by rfl, ?_⟩) ?_ ?_
           rotate_left
           ·intro w'
            go_simp
            with_reducible rfl
           rotate_left
           ·simp only [Act.put, List.setIfInBounds_toArray, List.set_cons_zero, List.set_cons_succ, i64_w, i32_w]
            rfl
           refine pure_ (i := 20) (N := some 2) (v := ?_) (a' := ?_) #[true, true, true, true, true, true, true, true, true, true, true, true, true, true, true, true, true, true, true, true, true] rfl rfl (any_of HT_.out (by kernel_rfl)) (fun _ _ _ h => h) (Or.inl ⟨by rfl, ?_⟩) ?_ ?_
           rotate_left
           ·intro w'
            go_simp
            with_reducible rfl
           rotate_left
           ·simp only [Act.put, List.setIfInBounds_toArray, List.set_cons_zero, List.set_cons_succ, i64_w, i32_w]
            rfl
           refine done_ (done_of HT_.out (by kernel_rfl)) ?_
           try go_wp2
           go_ret
           exact ⟨by first | rfl | (simp [errW_none, errW_some] <;> rfl) | (simp [*, errW_none, errW_some] <;> rfl), ms HB⟩
          ·rw [if_neg c62] at H
           have c62b0 : (t474 == (decide (t472 ≥ 0))) = false := by simpa using c62
           (try (have c62b1 : decide (t474 = (decide (t472 ≥ 0))) = false := by simpa using c62))
           (try (have c62b2 : (t474 == (decide (t472 ≥ 0))) = false := by simpa using c62))
           (try (have c62b3 : ¬ (t474 = (decide (t472 ≥ 0))) := by simpa using c62))
           clear c62
           obtain rfl := Option.some.inj H
           have hnb79 := NB447_448.out
           have hnc79 := NB448_447.out
           have hnb80 := NB447_454.out
           have hnc80 := NB454_447.out
           have hnb81 := NB447_460.out
           have hnc81 := NB460_447.out
           obtain ⟨hcz82_0, hcz82_1⟩ := c2 BK447
           have hfz82_0 := blk_frozen BK447.out 0
           have hfz82_1 := blk_frozen BK447.out 1
           have hnb83 := NB448_454.out
           have hnc83 := NB454_448.out
           have hnb84 := NB448_460.out
           have hnc84 := NB460_448.out
           obtain ⟨hcz85_0, hcz85_1⟩ := c2 BK448
           have hfz85_0 := blk_frozen BK448.out 0
           have hfz85_1 := blk_frozen BK448.out 1
           obtain ⟨Ao86, co86, eo86⟩ := Kd.R_slice HO_9.out
           subst eo86
           try go_wp2_with (first | ((with_reducible refine gate_callee (f := 37) rfl ?_); refine goesL_ (some 71) rfl rfl Try.func37 (by kernel_rfl) rfl #[.agg #[.int .i64 t443, .slice Ao15 t444.length co15], .slice Ao86 x9_2.length co86] rfl (by (try simp only [List.map_toArray, List.map_cons, List.map_nil]); first | done | rfl | (simp only [List.length_drop, List.length_take]; rfl)) ?_; (with_reducible refine (spec_EvalLin.calls k2 t443 _ _ t444 _ _ x9_2 t472 t473 _ ?side1 ?side2 ?side3 ?side4 A58.out).mono ?_); (case side1 => exact mc ((Kd.R_reads' HO_449001.out).2.2)); (case side2 => exact (Kd.R_reads' HO_449001.out).2.1); (case side3 => exact mc ((Kd.R_reads' HO_9.out).2.2)); (case side4 => exact (Kd.R_reads' HO_9.out).2.1); rintro e w87 ⟨rfl, hb⟩; refine ⟨_, rfl, ?_⟩; have n0_ := rb HO_9 hb; have n1_ := Aside0.mk (Kd.S_below (by (with_reducible repeat (first | apply Kd.S_alloc | apply Kd.S_drewN | apply Kd.S_drew)); exact HO_448001.out) hb); have n2_ := rb HO_449001 hb; have n3_ := Aside0.mk (Kd.S_below (by (with_reducible repeat (first | apply Kd.S_alloc | apply Kd.S_drewN | apply Kd.S_drew)); exact HO_455001.out) hb); have n4_ := Aside0.mk (Kd.S_below (by (with_reducible repeat (first | apply Kd.S_alloc | apply Kd.S_drewN | apply Kd.S_drew)); exact HO_461001.out) hb); have n5_ := bb BK447 hb; have n6_ := bb BK448 hb; have n7_ := bb BK454 hb; have n8_ := bb BK460 hb; have n9_ := bs HB hb; clear HO_9 HO_448001 HO_449001 HO_455001 HO_461001 BK447 BK448 BK454 BK460 HB; have HO_9 := n0_; have HO_448001 := n1_; have HO_449001 := n2_; have HO_455001 := n3_; have HO_461001 := n4_; have BK447 := n5_; have BK448 := n6_; have BK454 := n7_; have BK460 := n8_; have HB := n9_; clear n0_ n1_ n2_ n3_ n4_ n5_ n6_ n7_ n8_ n9_; (try clear hb)))
           replace HO_9 := Aside0.mk (Kd.R_drew HO_9.out)
           replace HO_448001 := Aside0.mk (Kd.S_drew HO_448001.out)
           replace HO_449001 := Aside0.mk (Kd.R_drew HO_449001.out)
           replace HO_455001 := Aside0.mk (Kd.S_drew HO_455001.out)
           replace HO_461001 := Aside0.mk (Kd.S_drew HO_461001.out)
           replace BK447 := Aside0.mk (blk_drew BK447.out)
           replace BK448 := Aside0.mk (blk_drew BK448.out)
           replace BK454 := Aside0.mk (blk_drew BK454.out)
           replace BK460 := Aside0.mk (blk_drew BK460.out)
           replace HB := Aside0.mk (below_drew1 HB.out)
           refine start_ (n := 21) (S := fun w' => w'.cell? ⟨gb454, 0, none⟩ = some (.int .i64 t449) ∧ w'.cell? ⟨gb454, 1, none⟩ = some (.slice Ao21 t450.length co21) ∧ w'.cell? ⟨gb447, 0, none⟩ = some (.int .i64 t439) ∧ w'.cell? ⟨gb447, 1, none⟩ = some (.slice Ao13 t440.length co13)) (ds := []) #[false, false, false, false, false, false, false, false, false, false, false, false, false, false, false, false, false, false, false, false, false] (by kernel_rfl) rfl rfl ⟨(c2 BK454).1, (c2 BK454).2, (c2 BK447).1, (c2 BK447).2⟩ (fun hHeld => ?_); refine with_tabW laws_FnSystems.tab16 laws_FnSystems.bits16 (fun HT_ HW_ => ?_)
           generalize w87.drew = w88 at HO_9 HO_448001 HO_449001 HO_455001 HO_461001 BK447 BK448 BK454 BK460 HB hHeld ⊢
           refine pure_ (i := 1) (N := some 75) (v := ?_) (a' := ?_) #[false, true, false, false, false, false, false, false, false, false, false, false, false, false, false, false, false, false, false, false, false] rfl rfl (any_of HT_.out (by kernel_rfl)) (fun _ _ _ h => h) (Or.inl ⟨by rfl, ?_⟩) ?_ ?_
           rotate_left
           ·intro w'
            go_simp
            with_reducible rfl
           rotate_left
           ·simp only [Act.put, List.setIfInBounds_toArray, List.set_cons_zero, List.set_cons_succ, i64_w, i32_w]
            rfl
           refine pure_ (i := 4) (N := some 78) (v := ?_) (a' := ?_) #[false, true, false, false, true, false, false, false, false, false, false, false, false, false, false, false, false, false, false, false, false] rfl rfl (any_of HT_.out (by kernel_rfl)) (fun _ _ _ h => h) (Or.inl ⟨by rfl, ?_⟩) ?_ ?_
           rotate_left
           ·intro w'
            go_simp
            with_reducible rfl
           rotate_left
           ·simp only [Act.put, List.setIfInBounds_toArray, List.set_cons_zero, List.set_cons_succ, i64_w, i32_w]
            rfl
           refine take_ (i := 0) (N := some 74) (v := ?_) (a' := ?_) #[true, true, false, false, true, false, false, false, false, false, false, false, false, false, false, false, false, false, false, false, false] rfl rfl (take_ofW HT_.out HW_.out (by kernel_rfl)) (fun _ _ _ h => h) (Or.inl ⟨by rfl, ?_⟩) hHeld ?_ ?_
           rotate_left
           ·rintro w' ⟨s0, s1, s2, s3⟩
            go_simp
            with_reducible rfl
           rotate_left
           ·simp only [Act.put, List.setIfInBounds_toArray, List.set_cons_zero, List.set_cons_succ, i64_w, i32_w]
            rfl
           refine take_ (i := 3) (N := some 77) (v := ?_) (a' := ?_) #[true, true, false, true, true, false, false, false, false, false, false, false, false, false, false, false, false, false, false, false, false] rfl rfl (take_ofW HT_.out HW_.out (by kernel_rfl)) (fun _ _ _ h => h) (Or.inl ⟨by rfl, ?_⟩) hHeld ?_ ?_
           rotate_left
           ·rintro w' ⟨s0, s1, s2, s3⟩
            go_simp
            with_reducible rfl
           rotate_left
           ·simp only [Act.put, List.setIfInBounds_toArray, List.set_cons_zero, List.set_cons_succ, i64_w, i32_w]
            rfl
           refine one_ (i := 2) (N := some 76) #[true, true, true, true, true, false, false, false, false, false, false, false, false, false, false, false, false, false, false, false, false] rfl rfl (one_of HT_.out (by kernel_rfl)) (by decide) (fun K hK => ?_)
           refine goes_ Try.func38 (by kernel_rfl) rfl #[.agg #[.int .i64 t449, .slice Ao21 t450.length co21], .slice Ao86 x9_2.length co86] (by rfl) rfl rfl (by (try simp only [List.map_toArray, List.map_cons, List.map_nil]); first | done | rfl | (simp only [List.length_drop, List.length_take]; rfl)) ?_
           with_reducible refine (impl_Satisfies.calls k2 t449 _ _ t450 _ _ x9_2 t474 _ ?side1 ?side2 ?side3 ?side4 A59.out).mono ?_
           (case side1 => exact mc ((Kd.S_reads' HO_455001.out).2.2))
           (case side2 => exact (Kd.S_reads' HO_455001.out).2.1)
           (case side3 => exact mc ((Kd.R_reads' HO_9.out).2.2))
           (case side4 => exact (Kd.R_reads' HO_9.out).2.1)
           rintro e w89 ⟨rfl, hb⟩
           refine ⟨_, rfl, ?_⟩
           have n0_ := rb HO_9 hb
           have n1_ := Aside0.mk (Kd.S_below (by (with_reducible repeat (first | apply Kd.S_alloc | apply Kd.S_drewN | apply Kd.S_drew)); exact HO_448001.out) hb)
           have n2_ := rb HO_449001 hb
           have n3_ := Aside0.mk (Kd.S_below (by (with_reducible repeat (first | apply Kd.S_alloc | apply Kd.S_drewN | apply Kd.S_drew)); exact HO_455001.out) hb)
           have n4_ := Aside0.mk (Kd.S_below (by (with_reducible repeat (first | apply Kd.S_alloc | apply Kd.S_drewN | apply Kd.S_drew)); exact HO_461001.out) hb)
           have n5_ := bb BK447 hb
           have n6_ := bb BK448 hb
           have n7_ := bb BK454 hb
           have n8_ := bb BK460 hb
           have n9_ := bs HB hb
           clear HO_9
           clear HO_448001
           clear HO_449001
           clear HO_455001
           clear HO_461001
           clear BK447
           clear BK448
           clear BK454
           clear BK460
           clear HB
           have HO_9 := n0_
           have HO_448001 := n1_
           have HO_449001 := n2_
           have HO_455001 := n3_
           have HO_461001 := n4_
           have BK447 := n5_
           have BK448 := n6_
           have BK454 := n7_
           have BK460 := n8_
           have HB := n9_
           clear n0_ n1_ n2_ n3_ n4_ n5_ n6_ n7_ n8_ n9_
           (try clear hb)
           (try clear hb2)
           (try clear hk)
           (try clear hi)
           refine hK.out _ _ ⟨(c2 BK454).1, (c2 BK454).2, (c2 BK447).1, (c2 BK447).2⟩ (fun hHeld => ?_)
           clear hK K
           refine norm_ (a' := ?_) ?_ ?_
           rotate_left
           ·show Act.put _ (some 76) _ = _
            simp only [Act.put, List.setIfInBounds_toArray, List.set_cons_zero, List.set_cons_succ, i64_w, i32_w]
            rfl
           refine one_ (i := 5) (N := some 79) #[true, true, true, true, true, true, false, false, false, false, false, false, false, false, false, false, false, false, false, false, false] rfl rfl (one_of HT_.out (by kernel_rfl)) (by decide) (fun K hK => ?_)
           refine goes_ Try.func38 (by kernel_rfl) rfl #[.agg #[.int .i64 t439, .slice Ao13 t440.length co13], .slice Ao86 x9_2.length co86] (by rfl) rfl rfl (by (try simp only [List.map_toArray, List.map_cons, List.map_nil]); first | done | rfl | (simp only [List.length_drop, List.length_take]; rfl)) ?_
           with_reducible refine (impl_Satisfies.calls k2 t439 _ _ t440 _ _ x9_2 true _ ?side1 ?side2 ?side3 ?side4 A60.out).mono ?_
           (case side1 => exact mc ((Kd.S_reads' HO_448001.out).2.2))
           (case side2 => exact (Kd.S_reads' HO_448001.out).2.1)
           (case side3 => exact mc ((Kd.R_reads' HO_9.out).2.2))
           (case side4 => exact (Kd.R_reads' HO_9.out).2.1)
           rintro e w90 ⟨rfl, hb⟩
           refine ⟨_, rfl, ?_⟩
           have n0_ := rb HO_9 hb
           have n1_ := Aside0.mk (Kd.S_below (by (with_reducible repeat (first | apply Kd.S_alloc | apply Kd.S_drewN | apply Kd.S_drew)); exact HO_448001.out) hb)
           have n2_ := rb HO_449001 hb
           have n3_ := Aside0.mk (Kd.S_below (by (with_reducible repeat (first | apply Kd.S_alloc | apply Kd.S_drewN | apply Kd.S_drew)); exact HO_455001.out) hb)
           have n4_ := Aside0.mk (Kd.S_below (by (with_reducible repeat (first | apply Kd.S_alloc | apply Kd.S_drewN | apply Kd.S_drew)); exact HO_461001.out) hb)
           have n5_ := bb BK447 hb
           have n6_ := bb BK448 hb
           have n7_ := bb BK454 hb
           have n8_ := bb BK460 hb
           have n9_ := bs HB hb
           clear HO_9
           clear HO_448001
           clear HO_449001
           clear HO_455001
           clear HO_461001
           clear BK447
           clear BK448
           clear BK454
           clear BK460
           clear HB
           have HO_9 := n0_
           have HO_448001 := n1_
           have HO_449001 := n2_
           have HO_455001 := n3_
           have HO_461001 := n4_
           have BK447 := n5_
           have BK448 := n6_
           have BK454 := n7_
           have BK460 := n8_
           have HB := n9_
           clear n0_ n1_ n2_ n3_ n4_ n5_ n6_ n7_ n8_ n9_
           (try clear hb)
           (try clear hb2)
           (try clear hk)
           (try clear hi)
           refine hK.out _ _ ⟨(c2 BK454).1, (c2 BK454).2, (c2 BK447).1, (c2 BK447).2⟩ (fun hHeld => ?_)
           clear hK K
           refine norm_ (a' := ?_) ?_ ?_
           rotate_left
           ·show Act.put _ (some 79) _ = _
            simp only [Act.put, List.setIfInBounds_toArray, List.set_cons_zero, List.set_cons_succ, i64_w, i32_w]
            rfl
           refine pure_ (i := 6) (N := some 80) (v := ?_) (a' := ?_) #[true, true, true, true, true, true, true, false, false, false, false, false, false, false, false, false, false, false, false, false, false] rfl rfl (any_of HT_.out (by kernel_rfl)) (fun _ _ _ h => h) (Or.inl ⟨by rfl, ?_⟩) ?_ ?_
           rotate_left
           ·intro w'
            go_simp
            with_reducible rfl
           rotate_left
           ·simp only [Act.put, List.setIfInBounds_toArray, List.set_cons_zero, List.set_cons_succ, i64_w, i32_w]
            rfl
           refine pure_ (i := 7) (N := some 81) (v := ?_) (a' := ?_) #[true, true, true, true, true, true, true, true, false, false, false, false, false, false, false, false, false, false, false, false, false] rfl rfl (any_of HT_.out (by kernel_rfl)) (fun _ _ _ h => h) (Or.inl ⟨by rfl, ?_⟩) ?_ ?_
           rotate_left
           ·intro w'
            go_simp
            with_reducible rfl
           rotate_left
           ·simp only [Act.put, List.setIfInBounds_toArray, List.set_cons_zero, List.set_cons_succ, i64_w, i32_w]
            rfl
           refine pure_ (i := 8) (N := some 82) (v := ?_) (a' := ?_) #[true, true, true, true, true, true, true, true, true, false, false, false, false, false, false, false, false, false, false, false, false] rfl rfl (any_of HT_.out (by kernel_rfl)) (fun _ _ _ h => h) (Or.inl ⟨by rfl, ?_⟩) ?_ ?_
           rotate_left
           ·intro w'
            go_simp
            with_reducible rfl
           rotate_left
           ·simp only [Act.put, List.setIfInBounds_toArray, List.set_cons_zero, List.set_cons_succ, i64_w, i32_w]
            rfl
           refine pure_ (i := 9) (N := some 83) (v := ?_) (a' := ?_) #[true, true, true, true, true, true, true, true, true, true, false, false, false, false, false, false, false, false, false, false, false] rfl rfl (any_of HT_.out (by kernel_rfl)) (fun _ _ _ h => h) (Or.inl ⟨by rfl, ?_⟩) ?_ ?_
           rotate_left
           ·intro w'
            go_simp
            with_reducible rfl
           rotate_left
           ·simp only [Act.put, List.setIfInBounds_toArray, List.set_cons_zero, List.set_cons_succ, i64_w, i32_w]
            rfl
           refine pure_ (i := 10) (N := some 84) (v := ?_) (a' := ?_) #[true, true, true, true, true, true, true, true, true, true, true, false, false, false, false, false, false, false, false, false, false] rfl rfl (any_of HT_.out (by kernel_rfl)) (fun _ _ _ h => h) (Or.inl ⟨by rfl, ?_⟩) ?_ ?_
           rotate_left
           ·intro w'
            go_simp
            with_reducible rfl
           rotate_left
           ·simp only [Act.put, List.setIfInBounds_toArray, List.set_cons_zero, List.set_cons_succ, i64_w, i32_w]
            rfl
           refine pure_ (i := 11) (N := some 85) (v := ?_) (a' := ?_) #[true, true, true, true, true, true, true, true, true, true, true, true, false, false, false, false, false, false, false, false, false] rfl rfl (any_of HT_.out (by kernel_rfl)) (fun _ _ _ h => h) (Or.inl ⟨by rfl, ?_⟩) ?_ ?_
           rotate_left
           ·intro w'
            go_simp
            with_reducible rfl
           rotate_left
           ·simp only [Act.put, List.setIfInBounds_toArray, List.set_cons_zero, List.set_cons_succ, i64_w, i32_w]
            rfl
           refine pure_ (i := 12) (N := some 86) (v := undef) (a' := ?_) #[true, true, true, true, true, true, true, true, true, true, true, true, true, false, false, false, false, false, false, false, false] rfl rfl (any_of HT_.out (by kernel_rfl)) (fun _ _ _ h => h) (Or.inr ⟨by rfl, rfl⟩) ?_ ?_
           rotate_left
           ·simp only [Act.put, List.setIfInBounds_toArray, List.set_cons_zero, List.set_cons_succ, i64_w, i32_w]
            rfl
           refine pure_ (i := 13) (N := some 87) (v := undef) (a' := ?_) #[true, true, true, true, true, true, true, true, true, true, true, true, true, true, false, false, false, false, false, false, false] rfl rfl (any_of HT_.out (by kernel_rfl)) (fun _ _ _ h => h) (Or.inr ⟨by rfl, rfl⟩) ?_ ?_
           rotate_left
           ·simp only [Act.put, List.setIfInBounds_toArray, List.set_cons_zero, List.set_cons_succ, i64_w, i32_w]
            rfl
           refine pure_ (i := 14) (N := some 88) (v := undef) (a' := ?_) #[true, true, true, true, true, true, true, true, true, true, true, true, true, true, true, false, false, false, false, false, false] rfl rfl (any_of HT_.out (by kernel_rfl)) (fun _ _ _ h => h) (Or.inr ⟨by rfl, rfl⟩) ?_ ?_
           rotate_left
           ·simp only [Act.put, List.setIfInBounds_toArray, List.set_cons_zero, List.set_cons_succ, i64_w, i32_w]
            rfl
           refine pure_ (i := 15) (N := some 89) (v := undef) (a' := ?_) #[true, true, true, true, true, true, true, true, true, true, true, true, true, true, true, true, false, false, false, false, false] rfl rfl (any_of HT_.out (by kernel_rfl)) (fun _ _ _ h => h) (Or.inr ⟨by rfl, rfl⟩) ?_ ?_
           rotate_left
           ·simp only [Act.put, List.setIfInBounds_toArray, List.set_cons_zero, List.set_cons_succ, i64_w, i32_w]
            rfl
           refine pure_ (i := 16) (N := some 90) (v := undef) (a' := ?_) #[true, true, true, true, true, true, true, true, true, true, true, true, true, true, true, true, true, false, false, false, false] rfl rfl (any_of HT_.out (by kernel_rfl)) (fun _ _ _ h => h) (Or.inr ⟨by rfl, rfl⟩) ?_ ?_
           rotate_left
           ·simp only [Act.put, List.setIfInBounds_toArray, List.set_cons_zero, List.set_cons_succ, i64_w, i32_w]
            rfl
           refine pure_ (i := 17) (N := some 91) (v := undef) (a' := ?_) #[true, true, true, true, true, true, true, true, true, true, true, true, true, true, true, true, true, true, false, false, false] rfl rfl (any_of HT_.out (by kernel_rfl)) (fun _ _ _ h => h) (Or.inr ⟨by rfl, rfl⟩) ?_ ?_
           rotate_left
           ·simp only [Act.put, List.setIfInBounds_toArray, List.set_cons_zero, List.set_cons_succ, i64_w, i32_w]
            rfl
           refine pure_ (i := 18) (N := some 92) (v := undef) (a' := ?_) #[true, true, true, true, true, true, true, true, true, true, true, true, true, true, true, true, true, true, true, false, false] rfl rfl (any_of HT_.out (by kernel_rfl)) (fun _ _ _ h => h) (Or.inr ⟨by rfl, rfl⟩) ?_ ?_
           rotate_left
           ·simp only [Act.put, List.setIfInBounds_toArray, List.set_cons_zero, List.set_cons_succ, i64_w, i32_w]
            rfl
           refine pure_ (i := 19) (N := some 93) (v := ?_) (a' := ?_) #[true, true, true, true, true, true, true, true, true, true, true, true, true, true, true, true, true, true, true, true, false] rfl rfl (any_of HT_.out (by kernel_rfl)) (fun _ _ _ h => h) (Or.inl ⟨by rfl, ?_⟩) ?_ ?_
           rotate_left
           ·intro w'
            go_simp
            with_reducible rfl
           rotate_left
           ·simp only [Act.put, List.setIfInBounds_toArray, List.set_cons_zero, List.set_cons_succ, i64_w, i32_w]
            rfl
           refine pure_ (i := 20) (N := some 2) (v := ?_) (a' := ?_) #[true, true, true, true, true, true, true, true, true, true, true, true, true, true, true, true, true, true, true, true, true] rfl rfl (any_of HT_.out (by kernel_rfl)) (fun _ _ _ h => h) (Or.inl ⟨by rfl, ?_⟩) ?_ ?_
           rotate_left
           ·intro w'
            go_simp
            with_reducible rfl
           rotate_left
           ·simp only [Act.put, List.setIfInBounds_toArray, List.set_cons_zero, List.set_cons_succ, i64_w, i32_w]
            rfl
           refine done_ (done_of HT_.out (by kernel_rfl)) ?_
           try go_wp2
           go_ret
           exact ⟨by first | rfl | (simp [errW_none, errW_some] <;> rfl) | (simp [*, errW_none, errW_some] <;> rfl), ms HB⟩
         ·replace c61 := Bool.eq_false_iff.mpr c61
          subst c61
          have H1 : (if (t474 == false) = true then ((impl_Satisfies.f k2 t439 t440 x9_2).bind fun t478 => ((spec_Satisfies.f k2 t439 t440 x9_2).bind fun t479 => (some (t478 == t479)))) else (some false)) = some r := by rw [if_neg (show ¬ (false = true) by decide)] at H; exact H
          clear H
          have H := H1
          clear H1
          by_cases c91 : (t474 == false) = true
          ·rw [if_pos c91] at H
           have c91b0 : (t474 == false) = true := c91
           (try (have c91b1 : decide (t474 = false) = true := by simpa using c91))
           (try (have c91b2 : (t474 == false) = true := by simpa using c91))
           clear c91
           replace H := Option.bind_eq_some_iff.mp H
           obtain ⟨t478, A920, H⟩ := H
           replace H : ((spec_Satisfies.f k2 t439 t440 x9_2).bind fun t479 => (some (t478 == t479))) = some r := H
           have A92 := Aside0.mk A920
           clear A920
           replace H := Option.bind_eq_some_iff.mp H
           obtain ⟨t479, A930, H⟩ := H
           replace H : (some (t478 == t479)) = some r := H
           have A93 := Aside0.mk A930
           clear A930
           obtain rfl := Option.some.inj H
           have hnb94 := NB447_448.out
           have hnc94 := NB448_447.out
           have hnb95 := NB447_454.out
           have hnc95 := NB454_447.out
           have hnb96 := NB447_460.out
           have hnc96 := NB460_447.out
           obtain ⟨hcz97_0, hcz97_1⟩ := c2 BK447
           have hfz97_0 := blk_frozen BK447.out 0
           have hfz97_1 := blk_frozen BK447.out 1
           have hnb98 := NB448_454.out
           have hnc98 := NB454_448.out
           have hnb99 := NB448_460.out
           have hnc99 := NB460_448.out
           obtain ⟨hcz100_0, hcz100_1⟩ := c2 BK448
           have hfz100_0 := blk_frozen BK448.out 0
           have hfz100_1 := blk_frozen BK448.out 1
           obtain ⟨Ao101, co101, eo101⟩ := Kd.R_slice HO_9.out
           subst eo101
           try go_wp2_with (first | ((with_reducible refine gate_callee (f := 37) rfl ?_); refine goesL_ (some 71) rfl rfl Try.func37 (by kernel_rfl) rfl #[.agg #[.int .i64 t443, .slice Ao15 t444.length co15], .slice Ao101 x9_2.length co101] rfl (by (try simp only [List.map_toArray, List.map_cons, List.map_nil]); first | done | rfl | (simp only [List.length_drop, List.length_take]; rfl)) ?_; (with_reducible refine (spec_EvalLin.calls k2 t443 _ _ t444 _ _ x9_2 t472 t473 _ ?side1 ?side2 ?side3 ?side4 A58.out).mono ?_); (case side1 => exact mc ((Kd.R_reads' HO_449001.out).2.2)); (case side2 => exact (Kd.R_reads' HO_449001.out).2.1); (case side3 => exact mc ((Kd.R_reads' HO_9.out).2.2)); (case side4 => exact (Kd.R_reads' HO_9.out).2.1); rintro e w102 ⟨rfl, hb⟩; refine ⟨_, rfl, ?_⟩; have n0_ := rb HO_9 hb; have n1_ := Aside0.mk (Kd.S_below (by (with_reducible repeat (first | apply Kd.S_alloc | apply Kd.S_drewN | apply Kd.S_drew)); exact HO_448001.out) hb); have n2_ := rb HO_449001 hb; have n3_ := Aside0.mk (Kd.S_below (by (with_reducible repeat (first | apply Kd.S_alloc | apply Kd.S_drewN | apply Kd.S_drew)); exact HO_455001.out) hb); have n4_ := Aside0.mk (Kd.S_below (by (with_reducible repeat (first | apply Kd.S_alloc | apply Kd.S_drewN | apply Kd.S_drew)); exact HO_461001.out) hb); have n5_ := bb BK447 hb; have n6_ := bb BK448 hb; have n7_ := bb BK454 hb; have n8_ := bb BK460 hb; have n9_ := bs HB hb; clear HO_9 HO_448001 HO_449001 HO_455001 HO_461001 BK447 BK448 BK454 BK460 HB; have HO_9 := n0_; have HO_448001 := n1_; have HO_449001 := n2_; have HO_455001 := n3_; have HO_461001 := n4_; have BK447 := n5_; have BK448 := n6_; have BK454 := n7_; have BK460 := n8_; have HB := n9_; clear n0_ n1_ n2_ n3_ n4_ n5_ n6_ n7_ n8_ n9_; (try clear hb)))
           replace HO_9 := Aside0.mk (Kd.R_drew HO_9.out)
           replace HO_448001 := Aside0.mk (Kd.S_drew HO_448001.out)
           replace HO_449001 := Aside0.mk (Kd.R_drew HO_449001.out)
           replace HO_455001 := Aside0.mk (Kd.S_drew HO_455001.out)
           replace HO_461001 := Aside0.mk (Kd.S_drew HO_461001.out)
           replace BK447 := Aside0.mk (blk_drew BK447.out)
           replace BK448 := Aside0.mk (blk_drew BK448.out)
           replace BK454 := Aside0.mk (blk_drew BK454.out)
           replace BK460 := Aside0.mk (blk_drew BK460.out)
           replace HB := Aside0.mk (below_drew1 HB.out)
           refine start_ (n := 21) (S := fun w' => w'.cell? ⟨gb454, 0, none⟩ = some (.int .i64 t449) ∧ w'.cell? ⟨gb454, 1, none⟩ = some (.slice Ao21 t450.length co21) ∧ w'.cell? ⟨gb447, 0, none⟩ = some (.int .i64 t439) ∧ w'.cell? ⟨gb447, 1, none⟩ = some (.slice Ao13 t440.length co13)) (ds := []) #[false, false, false, false, false, false, false, false, false, false, false, false, false, false, false, false, false, false, false, false, false] (by kernel_rfl) rfl rfl ⟨(c2 BK454).1, (c2 BK454).2, (c2 BK447).1, (c2 BK447).2⟩ (fun hHeld => ?_); refine with_tabW laws_FnSystems.tab16 laws_FnSystems.bits16 (fun HT_ HW_ => ?_)
           generalize w102.drew = w103 at HO_9 HO_448001 HO_449001 HO_455001 HO_461001 BK447 BK448 BK454 BK460 HB hHeld ⊢
           refine pure_ (i := 1) (N := some 75) (v := ?_) (a' := ?_) #[false, true, false, false, false, false, false, false, false, false, false, false, false, false, false, false, false, false, false, false, false] rfl rfl (any_of HT_.out (by kernel_rfl)) (fun _ _ _ h => h) (Or.inl ⟨by rfl, ?_⟩) ?_ ?_
           rotate_left
           ·intro w'
            go_simp
            with_reducible rfl
           rotate_left
           ·simp only [Act.put, List.setIfInBounds_toArray, List.set_cons_zero, List.set_cons_succ, i64_w, i32_w]
            rfl
           refine pure_ (i := 4) (N := some 78) (v := ?_) (a' := ?_) #[false, true, false, false, true, false, false, false, false, false, false, false, false, false, false, false, false, false, false, false, false] rfl rfl (any_of HT_.out (by kernel_rfl)) (fun _ _ _ h => h) (Or.inl ⟨by rfl, ?_⟩) ?_ ?_
           rotate_left
           ·intro w'
            go_simp
            with_reducible rfl
           rotate_left
           ·simp only [Act.put, List.setIfInBounds_toArray, List.set_cons_zero, List.set_cons_succ, i64_w, i32_w]
            rfl
           refine take_ (i := 0) (N := some 74) (v := ?_) (a' := ?_) #[true, true, false, false, true, false, false, false, false, false, false, false, false, false, false, false, false, false, false, false, false] rfl rfl (take_ofW HT_.out HW_.out (by kernel_rfl)) (fun _ _ _ h => h) (Or.inl ⟨by rfl, ?_⟩) hHeld ?_ ?_
           rotate_left
           ·rintro w' ⟨s0, s1, s2, s3⟩
            go_simp
            with_reducible rfl
           rotate_left
           ·simp only [Act.put, List.setIfInBounds_toArray, List.set_cons_zero, List.set_cons_succ, i64_w, i32_w]
            rfl
           refine take_ (i := 3) (N := some 77) (v := ?_) (a' := ?_) #[true, true, false, true, true, false, false, false, false, false, false, false, false, false, false, false, false, false, false, false, false] rfl rfl (take_ofW HT_.out HW_.out (by kernel_rfl)) (fun _ _ _ h => h) (Or.inl ⟨by rfl, ?_⟩) hHeld ?_ ?_
           rotate_left
           ·rintro w' ⟨s0, s1, s2, s3⟩
            go_simp
            with_reducible rfl
           rotate_left
           ·simp only [Act.put, List.setIfInBounds_toArray, List.set_cons_zero, List.set_cons_succ, i64_w, i32_w]
            rfl
           refine one_ (i := 2) (N := some 76) #[true, true, true, true, true, false, false, false, false, false, false, false, false, false, false, false, false, false, false, false, false] rfl rfl (one_of HT_.out (by kernel_rfl)) (by decide) (fun K hK => ?_)
           refine goes_ Try.func38 (by kernel_rfl) rfl #[.agg #[.int .i64 t449, .slice Ao21 t450.length co21], .slice Ao101 x9_2.length co101] (by rfl) rfl rfl (by (try simp only [List.map_toArray, List.map_cons, List.map_nil]); first | done | rfl | (simp only [List.length_drop, List.length_take]; rfl)) ?_
           with_reducible refine (impl_Satisfies.calls k2 t449 _ _ t450 _ _ x9_2 t474 _ ?side1 ?side2 ?side3 ?side4 A59.out).mono ?_
           (case side1 => exact mc ((Kd.S_reads' HO_455001.out).2.2))
           (case side2 => exact (Kd.S_reads' HO_455001.out).2.1)
           (case side3 => exact mc ((Kd.R_reads' HO_9.out).2.2))
           (case side4 => exact (Kd.R_reads' HO_9.out).2.1)
           rintro e w104 ⟨rfl, hb⟩
           refine ⟨_, rfl, ?_⟩
           have n0_ := rb HO_9 hb
           have n1_ := Aside0.mk (Kd.S_below (by (with_reducible repeat (first | apply Kd.S_alloc | apply Kd.S_drewN | apply Kd.S_drew)); exact HO_448001.out) hb)
           have n2_ := rb HO_449001 hb
           have n3_ := Aside0.mk (Kd.S_below (by (with_reducible repeat (first | apply Kd.S_alloc | apply Kd.S_drewN | apply Kd.S_drew)); exact HO_455001.out) hb)
           have n4_ := Aside0.mk (Kd.S_below (by (with_reducible repeat (first | apply Kd.S_alloc | apply Kd.S_drewN | apply Kd.S_drew)); exact HO_461001.out) hb)
           have n5_ := bb BK447 hb
           have n6_ := bb BK448 hb
           have n7_ := bb BK454 hb
           have n8_ := bb BK460 hb
           have n9_ := bs HB hb
           clear HO_9
           clear HO_448001
           clear HO_449001
           clear HO_455001
           clear HO_461001
           clear BK447
           clear BK448
           clear BK454
           clear BK460
           clear HB
           have HO_9 := n0_
           have HO_448001 := n1_
           have HO_449001 := n2_
           have HO_455001 := n3_
           have HO_461001 := n4_
           have BK447 := n5_
           have BK448 := n6_
           have BK454 := n7_
           have BK460 := n8_
           have HB := n9_
           clear n0_ n1_ n2_ n3_ n4_ n5_ n6_ n7_ n8_ n9_
           (try clear hb)
           (try clear hb2)
           (try clear hk)
           (try clear hi)
           refine hK.out _ _ ⟨(c2 BK454).1, (c2 BK454).2, (c2 BK447).1, (c2 BK447).2⟩ (fun hHeld => ?_)
           clear hK K
           refine norm_ (a' := ?_) ?_ ?_
           rotate_left
           ·show Act.put _ (some 76) _ = _
            simp only [Act.put, List.setIfInBounds_toArray, List.set_cons_zero, List.set_cons_succ, i64_w, i32_w]
            rfl
           refine one_ (i := 5) (N := some 79) #[true, true, true, true, true, true, false, false, false, false, false, false, false, false, false, false, false, false, false, false, false] rfl rfl (one_of HT_.out (by kernel_rfl)) (by decide) (fun K hK => ?_)
           refine goes_ Try.func38 (by kernel_rfl) rfl #[.agg #[.int .i64 t439, .slice Ao13 t440.length co13], .slice Ao101 x9_2.length co101] (by rfl) rfl rfl (by (try simp only [List.map_toArray, List.map_cons, List.map_nil]); first | done | rfl | (simp only [List.length_drop, List.length_take]; rfl)) ?_
           with_reducible refine (impl_Satisfies.calls k2 t439 _ _ t440 _ _ x9_2 false _ ?side1 ?side2 ?side3 ?side4 A60.out).mono ?_
           (case side1 => exact mc ((Kd.S_reads' HO_448001.out).2.2))
           (case side2 => exact (Kd.S_reads' HO_448001.out).2.1)
           (case side3 => exact mc ((Kd.R_reads' HO_9.out).2.2))
           (case side4 => exact (Kd.R_reads' HO_9.out).2.1)
           rintro e w105 ⟨rfl, hb⟩
           refine ⟨_, rfl, ?_⟩
           have n0_ := rb HO_9 hb
           have n1_ := Aside0.mk (Kd.S_below (by (with_reducible repeat (first | apply Kd.S_alloc | apply Kd.S_drewN | apply Kd.S_drew)); exact HO_448001.out) hb)
           have n2_ := rb HO_449001 hb
           have n3_ := Aside0.mk (Kd.S_below (by (with_reducible repeat (first | apply Kd.S_alloc | apply Kd.S_drewN | apply Kd.S_drew)); exact HO_455001.out) hb)
           have n4_ := Aside0.mk (Kd.S_below (by (with_reducible repeat (first | apply Kd.S_alloc | apply Kd.S_drewN | apply Kd.S_drew)); exact HO_461001.out) hb)
           have n5_ := bb BK447 hb
           have n6_ := bb BK448 hb
           have n7_ := bb BK454 hb
           have n8_ := bb BK460 hb
           have n9_ := bs HB hb
           clear HO_9
           clear HO_448001
           clear HO_449001
           clear HO_455001
           clear HO_461001
           clear BK447
           clear BK448
           clear BK454
           clear BK460
           clear HB
           have HO_9 := n0_
           have HO_448001 := n1_
           have HO_449001 := n2_
           have HO_455001 := n3_
           have HO_461001 := n4_
           have BK447 := n5_
           have BK448 := n6_
           have BK454 := n7_
           have BK460 := n8_
           have HB := n9_
           clear n0_ n1_ n2_ n3_ n4_ n5_ n6_ n7_ n8_ n9_
           (try clear hb)
           (try clear hb2)
           (try clear hk)
           (try clear hi)
           refine hK.out _ _ ⟨(c2 BK454).1, (c2 BK454).2, (c2 BK447).1, (c2 BK447).2⟩ (fun hHeld => ?_)
           clear hK K
           refine norm_ (a' := ?_) ?_ ?_
           rotate_left
           ·show Act.put _ (some 79) _ = _
            simp only [Act.put, List.setIfInBounds_toArray, List.set_cons_zero, List.set_cons_succ, i64_w, i32_w]
            rfl
           refine pure_ (i := 6) (N := some 80) (v := ?_) (a' := ?_) #[true, true, true, true, true, true, true, false, false, false, false, false, false, false, false, false, false, false, false, false, false] rfl rfl (any_of HT_.out (by kernel_rfl)) (fun _ _ _ h => h) (Or.inl ⟨by rfl, ?_⟩) ?_ ?_
           rotate_left
           ·intro w'
            go_simp
            with_reducible rfl
           rotate_left
           ·simp only [Act.put, List.setIfInBounds_toArray, List.set_cons_zero, List.set_cons_succ, i64_w, i32_w]
            rfl
           refine pure_ (i := 7) (N := some 81) (v := undef) (a' := ?_) #[true, true, true, true, true, true, true, true, false, false, false, false, false, false, false, false, false, false, false, false, false] rfl rfl (any_of HT_.out (by kernel_rfl)) (fun _ _ _ h => h) (Or.inr ⟨by rfl, rfl⟩) ?_ ?_
           rotate_left
           ·simp only [Act.put, List.setIfInBounds_toArray, List.set_cons_zero, List.set_cons_succ, i64_w, i32_w]
            rfl
           refine pure_ (i := 8) (N := some 82) (v := undef) (a' := ?_) #[true, true, true, true, true, true, true, true, true, false, false, false, false, false, false, false, false, false, false, false, false] rfl rfl (any_of HT_.out (by kernel_rfl)) (fun _ _ _ h => h) (Or.inr ⟨by rfl, rfl⟩) ?_ ?_
           rotate_left
           ·simp only [Act.put, List.setIfInBounds_toArray, List.set_cons_zero, List.set_cons_succ, i64_w, i32_w]
            rfl
           refine pure_ (i := 9) (N := some 83) (v := ?_) (a' := ?_) #[true, true, true, true, true, true, true, true, true, true, false, false, false, false, false, false, false, false, false, false, false] rfl rfl (any_of HT_.out (by kernel_rfl)) (fun _ _ _ h => h) (Or.inl ⟨by rfl, ?_⟩) ?_ ?_
           rotate_left
           ·intro w'
            go_simp
            with_reducible rfl
           rotate_left
           ·simp only [Act.put, List.setIfInBounds_toArray, List.set_cons_zero, List.set_cons_succ, i64_w, i32_w]
            rfl
           refine pure_ (i := 10) (N := some 84) (v := ?_) (a' := ?_) #[true, true, true, true, true, true, true, true, true, true, true, false, false, false, false, false, false, false, false, false, false] rfl rfl (any_of HT_.out (by kernel_rfl)) (fun _ _ _ h => h) (Or.inl ⟨by rfl, ?_⟩) ?_ ?_
           rotate_left
           ·intro w'
            go_simp
            with_reducible rfl
           rotate_left
           ·simp only [Act.put, List.setIfInBounds_toArray, List.set_cons_zero, List.set_cons_succ, i64_w, i32_w]
            rfl
           refine pure_ (i := 11) (N := some 85) (v := ?_) (a' := ?_) #[true, true, true, true, true, true, true, true, true, true, true, true, false, false, false, false, false, false, false, false, false] rfl rfl (any_of HT_.out (by kernel_rfl)) (fun _ _ _ h => h) (Or.inl ⟨by rfl, ?_⟩) ?_ ?_
           rotate_left
           ·intro w'
            go_simp
            with_reducible rfl
           rotate_left
           ·simp only [Act.put, List.setIfInBounds_toArray, List.set_cons_zero, List.set_cons_succ, i64_w, i32_w]
            rfl
           refine pure_ (i := 13) (N := some 87) (v := ?_) (a' := ?_) #[true, true, true, true, true, true, true, true, true, true, true, true, false, true, false, false, false, false, false, false, false] rfl rfl (any_of HT_.out (by kernel_rfl)) (fun _ _ _ h => h) (Or.inl ⟨by rfl, ?_⟩) ?_ ?_
           rotate_left
           ·intro w'
            go_simp
            with_reducible rfl
           rotate_left
           ·simp only [Act.put, List.setIfInBounds_toArray, List.set_cons_zero, List.set_cons_succ, i64_w, i32_w]
            rfl
           refine pure_ (i := 16) (N := some 90) (v := ?_) (a' := ?_) #[true, true, true, true, true, true, true, true, true, true, true, true, false, true, false, false, true, false, false, false, false] rfl rfl (any_of HT_.out (by kernel_rfl)) (fun _ _ _ h => h) (Or.inl ⟨by rfl, ?_⟩) ?_ ?_
           rotate_left
           ·intro w'
            go_simp
            with_reducible rfl
           rotate_left
           ·simp only [Act.put, List.setIfInBounds_toArray, List.set_cons_zero, List.set_cons_succ, i64_w, i32_w]
            rfl
           refine take_ (i := 12) (N := some 86) (v := ?_) (a' := ?_) #[true, true, true, true, true, true, true, true, true, true, true, true, true, true, false, false, true, false, false, false, false] rfl rfl (take_ofW HT_.out HW_.out (by kernel_rfl)) (fun _ _ _ h => h) (Or.inl ⟨by rfl, ?_⟩) hHeld ?_ ?_
           rotate_left
           ·rintro w' ⟨s0, s1, s2, s3⟩
            go_simp
            with_reducible rfl
           rotate_left
           ·simp only [Act.put, List.setIfInBounds_toArray, List.set_cons_zero, List.set_cons_succ, i64_w, i32_w]
            rfl
           refine take_ (i := 15) (N := some 89) (v := ?_) (a' := ?_) #[true, true, true, true, true, true, true, true, true, true, true, true, true, true, false, true, true, false, false, false, false] rfl rfl (take_ofW HT_.out HW_.out (by kernel_rfl)) (fun _ _ _ h => h) (Or.inl ⟨by rfl, ?_⟩) hHeld ?_ ?_
           rotate_left
           ·rintro w' ⟨s0, s1, s2, s3⟩
            go_simp
            with_reducible rfl
           rotate_left
           ·simp only [Act.put, List.setIfInBounds_toArray, List.set_cons_zero, List.set_cons_succ, i64_w, i32_w]
            rfl
           refine one_ (i := 14) (N := some 88) #[true, true, true, true, true, true, true, true, true, true, true, true, true, true, true, true, true, false, false, false, false] rfl rfl (one_of HT_.out (by kernel_rfl)) (by decide) (fun K hK => ?_)
           refine goes_ Try.func38 (by kernel_rfl) rfl #[.agg #[.int .i64 t439, .slice Ao13 t440.length co13], .slice Ao101 x9_2.length co101] (by rfl) rfl rfl (by (try simp only [List.map_toArray, List.map_cons, List.map_nil]); first | done | rfl | (simp only [List.length_drop, List.length_take]; rfl)) ?_
           with_reducible refine (impl_Satisfies.calls k2 t439 _ _ t440 _ _ x9_2 t478 _ ?side1 ?side2 ?side3 ?side4 A92.out).mono ?_
           (case side1 => exact mc ((Kd.S_reads' HO_448001.out).2.2))
           (case side2 => exact (Kd.S_reads' HO_448001.out).2.1)
           (case side3 => exact mc ((Kd.R_reads' HO_9.out).2.2))
           (case side4 => exact (Kd.R_reads' HO_9.out).2.1)
           rintro e w106 ⟨rfl, hb⟩
           refine ⟨_, rfl, ?_⟩
           have n0_ := rb HO_9 hb
           have n1_ := Aside0.mk (Kd.S_below (by (with_reducible repeat (first | apply Kd.S_alloc | apply Kd.S_drewN | apply Kd.S_drew)); exact HO_448001.out) hb)
           have n2_ := rb HO_449001 hb
           have n3_ := Aside0.mk (Kd.S_below (by (with_reducible repeat (first | apply Kd.S_alloc | apply Kd.S_drewN | apply Kd.S_drew)); exact HO_455001.out) hb)
           have n4_ := Aside0.mk (Kd.S_below (by (with_reducible repeat (first | apply Kd.S_alloc | apply Kd.S_drewN | apply Kd.S_drew)); exact HO_461001.out) hb)
           have n5_ := bb BK447 hb
           have n6_ := bb BK448 hb
           have n7_ := bb BK454 hb
           have n8_ := bb BK460 hb
           have n9_ := bs HB hb
           clear HO_9
           clear HO_448001
           clear HO_449001
           clear HO_455001
           clear HO_461001
           clear BK447
           clear BK448
           clear BK454
           clear BK460
           clear HB
           have HO_9 := n0_
           have HO_448001 := n1_
           have HO_449001 := n2_
           have HO_455001 := n3_
           have HO_461001 := n4_
           have BK447 := n5_
           have BK448 := n6_
           have BK454 := n7_
           have BK460 := n8_
           have HB := n9_
           clear n0_ n1_ n2_ n3_ n4_ n5_ n6_ n7_ n8_ n9_
           (try clear hb)
           (try clear hb2)
           (try clear hk)
           (try clear hi)
           refine hK.out _ _ ⟨(c2 BK454).1, (c2 BK454).2, (c2 BK447).1, (c2 BK447).2⟩ (fun hHeld => ?_)
           clear hK K
           refine norm_ (a' := ?_) ?_ ?_
           rotate_left
           ·show Act.put _ (some 88) _ = _
            simp only [Act.put, List.setIfInBounds_toArray, List.set_cons_zero, List.set_cons_succ, i64_w, i32_w]
            rfl
           refine one_ (i := 17) (N := some 91) #[true, true, true, true, true, true, true, true, true, true, true, true, true, true, true, true, true, true, false, false, false] rfl rfl (one_of HT_.out (by kernel_rfl)) (by decide) (fun K hK => ?_)
           refine goes_ Try.func39 (by kernel_rfl) rfl #[.agg #[.int .i64 t439, .slice Ao13 t440.length co13], .slice Ao101 x9_2.length co101] (by rfl) rfl rfl (by (try simp only [List.map_toArray, List.map_cons, List.map_nil]); first | done | rfl | (simp only [List.length_drop, List.length_take]; rfl)) ?_
           with_reducible refine (spec_Satisfies.calls k2 t439 _ _ t440 _ _ x9_2 t479 _ ?side1 ?side2 ?side3 ?side4 A93.out).mono ?_
           (case side1 => exact mc ((Kd.S_reads' HO_448001.out).2.2))
           (case side2 => exact (Kd.S_reads' HO_448001.out).2.1)
           (case side3 => exact mc ((Kd.R_reads' HO_9.out).2.2))
           (case side4 => exact (Kd.R_reads' HO_9.out).2.1)
           rintro e w107 ⟨rfl, hb⟩
           refine ⟨_, rfl, ?_⟩
           have n0_ := rb HO_9 hb
           have n1_ := Aside0.mk (Kd.S_below (by (with_reducible repeat (first | apply Kd.S_alloc | apply Kd.S_drewN | apply Kd.S_drew)); exact HO_448001.out) hb)
           have n2_ := rb HO_449001 hb
           have n3_ := Aside0.mk (Kd.S_below (by (with_reducible repeat (first | apply Kd.S_alloc | apply Kd.S_drewN | apply Kd.S_drew)); exact HO_455001.out) hb)
           have n4_ := Aside0.mk (Kd.S_below (by (with_reducible repeat (first | apply Kd.S_alloc | apply Kd.S_drewN | apply Kd.S_drew)); exact HO_461001.out) hb)
           have n5_ := bb BK447 hb
           have n6_ := bb BK448 hb
           have n7_ := bb BK454 hb
           have n8_ := bb BK460 hb
           have n9_ := bs HB hb
           clear HO_9
           clear HO_448001
           clear HO_449001
           clear HO_455001
           clear HO_461001
           clear BK447
           clear BK448
           clear BK454
           clear BK460
           clear HB
           have HO_9 := n0_
           have HO_448001 := n1_
           have HO_449001 := n2_
           have HO_455001 := n3_
           have HO_461001 := n4_
           have BK447 := n5_
           have BK448 := n6_
           have BK454 := n7_
           have BK460 := n8_
           have HB := n9_
           clear n0_ n1_ n2_ n3_ n4_ n5_ n6_ n7_ n8_ n9_
           (try clear hb)
           (try clear hb2)
           (try clear hk)
           (try clear hi)
           refine hK.out _ _ ⟨(c2 BK454).1, (c2 BK454).2, (c2 BK447).1, (c2 BK447).2⟩ (fun hHeld => ?_)
           clear hK K
           refine norm_ (a' := ?_) ?_ ?_
           rotate_left
           ·show Act.put _ (some 91) _ = _
            simp only [Act.put, List.setIfInBounds_toArray, List.set_cons_zero, List.set_cons_succ, i64_w, i32_w]
            rfl
           refine pure_ (i := 18) (N := some 92) (v := ?_) (a' := ?_) #[true, true, true, true, true, true, true, true, true, true, true, true, true, true, true, true, true, true, true, false, false] rfl rfl (any_of HT_.out (by kernel_rfl)) (fun _ _ _ h => h) (Or.inl ⟨by rfl, ?_⟩) ?_ ?_
           rotate_left
           ·intro w'
            go_simp
            with_reducible rfl
           rotate_left
           ·simp only [Act.put, List.setIfInBounds_toArray, List.set_cons_zero, List.set_cons_succ, i64_w, i32_w]
            rfl
           refine pure_ (i := 19) (N := some 93) (v := ?_) (a' := ?_) #[true, true, true, true, true, true, true, true, true, true, true, true, true, true, true, true, true, true, true, true, false] rfl rfl (any_of HT_.out (by kernel_rfl)) (fun _ _ _ h => h) (Or.inl ⟨by rfl, ?_⟩) ?_ ?_
           rotate_left
           ·intro w'
            go_simp
            with_reducible rfl
           rotate_left
           ·simp only [Act.put, List.setIfInBounds_toArray, List.set_cons_zero, List.set_cons_succ, i64_w, i32_w]
            rfl
           refine pure_ (i := 20) (N := some 2) (v := ?_) (a' := ?_) #[true, true, true, true, true, true, true, true, true, true, true, true, true, true, true, true, true, true, true, true, true] rfl rfl (any_of HT_.out (by kernel_rfl)) (fun _ _ _ h => h) (Or.inl ⟨by rfl, ?_⟩) ?_ ?_
           rotate_left
           ·intro w'
            go_simp
            with_reducible rfl
           rotate_left
           ·simp only [Act.put, List.setIfInBounds_toArray, List.set_cons_zero, List.set_cons_succ, i64_w, i32_w]
            rfl
           refine done_ (done_of HT_.out (by kernel_rfl)) ?_
           try go_wp2
           go_ret
           exact ⟨by first | rfl | (simp [errW_none, errW_some] <;> rfl) | (simp [*, errW_none, errW_some] <;> rfl), ms HB⟩
          ·rw [if_neg c91] at H
           have c91b0 : (t474 == false) = false := by simpa using c91
           (try (have c91b1 : decide (t474 = false) = false := by simpa using c91))
           (try (have c91b2 : (t474 == false) = false := by simpa using c91))
           (try (have c91b3 : ¬ (t474 = false) := by simpa using c91))
           clear c91
           obtain rfl := Option.some.inj H
           have hnb108 := NB447_448.out
           have hnc108 := NB448_447.out
           have hnb109 := NB447_454.out
           have hnc109 := NB454_447.out
           have hnb110 := NB447_460.out
           have hnc110 := NB460_447.out
           obtain ⟨hcz111_0, hcz111_1⟩ := c2 BK447
           have hfz111_0 := blk_frozen BK447.out 0
           have hfz111_1 := blk_frozen BK447.out 1
           have hnb112 := NB448_454.out
           have hnc112 := NB454_448.out
           have hnb113 := NB448_460.out
           have hnc113 := NB460_448.out
           obtain ⟨hcz114_0, hcz114_1⟩ := c2 BK448
           have hfz114_0 := blk_frozen BK448.out 0
           have hfz114_1 := blk_frozen BK448.out 1
           obtain ⟨Ao115, co115, eo115⟩ := Kd.R_slice HO_9.out
           subst eo115
           try go_wp2_with (first | ((with_reducible refine gate_callee (f := 37) rfl ?_); refine goesL_ (some 71) rfl rfl Try.func37 (by kernel_rfl) rfl #[.agg #[.int .i64 t443, .slice Ao15 t444.length co15], .slice Ao115 x9_2.length co115] rfl (by (try simp only [List.map_toArray, List.map_cons, List.map_nil]); first | done | rfl | (simp only [List.length_drop, List.length_take]; rfl)) ?_; (with_reducible refine (spec_EvalLin.calls k2 t443 _ _ t444 _ _ x9_2 t472 t473 _ ?side1 ?side2 ?side3 ?side4 A58.out).mono ?_); (case side1 => exact mc ((Kd.R_reads' HO_449001.out).2.2)); (case side2 => exact (Kd.R_reads' HO_449001.out).2.1); (case side3 => exact mc ((Kd.R_reads' HO_9.out).2.2)); (case side4 => exact (Kd.R_reads' HO_9.out).2.1); rintro e w116 ⟨rfl, hb⟩; refine ⟨_, rfl, ?_⟩; have n0_ := rb HO_9 hb; have n1_ := Aside0.mk (Kd.S_below (by (with_reducible repeat (first | apply Kd.S_alloc | apply Kd.S_drewN | apply Kd.S_drew)); exact HO_448001.out) hb); have n2_ := rb HO_449001 hb; have n3_ := Aside0.mk (Kd.S_below (by (with_reducible repeat (first | apply Kd.S_alloc | apply Kd.S_drewN | apply Kd.S_drew)); exact HO_455001.out) hb); have n4_ := Aside0.mk (Kd.S_below (by (with_reducible repeat (first | apply Kd.S_alloc | apply Kd.S_drewN | apply Kd.S_drew)); exact HO_461001.out) hb); have n5_ := bb BK447 hb; have n6_ := bb BK448 hb; have n7_ := bb BK454 hb; have n8_ := bb BK460 hb; have n9_ := bs HB hb; clear HO_9 HO_448001 HO_449001 HO_455001 HO_461001 BK447 BK448 BK454 BK460 HB; have HO_9 := n0_; have HO_448001 := n1_; have HO_449001 := n2_; have HO_455001 := n3_; have HO_461001 := n4_; have BK447 := n5_; have BK448 := n6_; have BK454 := n7_; have BK460 := n8_; have HB := n9_; clear n0_ n1_ n2_ n3_ n4_ n5_ n6_ n7_ n8_ n9_; (try clear hb)))
           replace HO_9 := Aside0.mk (Kd.R_drew HO_9.out)
           replace HO_448001 := Aside0.mk (Kd.S_drew HO_448001.out)
           replace HO_449001 := Aside0.mk (Kd.R_drew HO_449001.out)
           replace HO_455001 := Aside0.mk (Kd.S_drew HO_455001.out)
           replace HO_461001 := Aside0.mk (Kd.S_drew HO_461001.out)
           replace BK447 := Aside0.mk (blk_drew BK447.out)
           replace BK448 := Aside0.mk (blk_drew BK448.out)
           replace BK454 := Aside0.mk (blk_drew BK454.out)
           replace BK460 := Aside0.mk (blk_drew BK460.out)
           replace HB := Aside0.mk (below_drew1 HB.out)
           refine start_ (n := 21) (S := fun w' => w'.cell? ⟨gb454, 0, none⟩ = some (.int .i64 t449) ∧ w'.cell? ⟨gb454, 1, none⟩ = some (.slice Ao21 t450.length co21) ∧ w'.cell? ⟨gb447, 0, none⟩ = some (.int .i64 t439) ∧ w'.cell? ⟨gb447, 1, none⟩ = some (.slice Ao13 t440.length co13)) (ds := []) #[false, false, false, false, false, false, false, false, false, false, false, false, false, false, false, false, false, false, false, false, false] (by kernel_rfl) rfl rfl ⟨(c2 BK454).1, (c2 BK454).2, (c2 BK447).1, (c2 BK447).2⟩ (fun hHeld => ?_); refine with_tabW laws_FnSystems.tab16 laws_FnSystems.bits16 (fun HT_ HW_ => ?_)
           generalize w116.drew = w117 at HO_9 HO_448001 HO_449001 HO_455001 HO_461001 BK447 BK448 BK454 BK460 HB hHeld ⊢
           refine pure_ (i := 1) (N := some 75) (v := ?_) (a' := ?_) #[false, true, false, false, false, false, false, false, false, false, false, false, false, false, false, false, false, false, false, false, false] rfl rfl (any_of HT_.out (by kernel_rfl)) (fun _ _ _ h => h) (Or.inl ⟨by rfl, ?_⟩) ?_ ?_
           rotate_left
           ·intro w'
            go_simp
            with_reducible rfl
           rotate_left
           ·simp only [Act.put, List.setIfInBounds_toArray, List.set_cons_zero, List.set_cons_succ, i64_w, i32_w]
            rfl
           refine pure_ (i := 4) (N := some 78) (v := ?_) (a' := ?_) #[false, true, false, false, true, false, false, false, false, false, false, false, false, false, false, false, false, false, false, false, false] rfl rfl (any_of HT_.out (by kernel_rfl)) (fun _ _ _ h => h) (Or.inl ⟨by rfl, ?_⟩) ?_ ?_
           rotate_left
           ·intro w'
            go_simp
            with_reducible rfl
           rotate_left
           ·simp only [Act.put, List.setIfInBounds_toArray, List.set_cons_zero, List.set_cons_succ, i64_w, i32_w]
            rfl
           refine take_ (i := 0) (N := some 74) (v := ?_) (a' := ?_) #[true, true, false, false, true, false, false, false, false, false, false, false, false, false, false, false, false, false, false, false, false] rfl rfl (take_ofW HT_.out HW_.out (by kernel_rfl)) (fun _ _ _ h => h) (Or.inl ⟨by rfl, ?_⟩) hHeld ?_ ?_
           rotate_left
           ·rintro w' ⟨s0, s1, s2, s3⟩
            go_simp
            with_reducible rfl
           rotate_left
           ·simp only [Act.put, List.setIfInBounds_toArray, List.set_cons_zero, List.set_cons_succ, i64_w, i32_w]
            rfl
           refine take_ (i := 3) (N := some 77) (v := ?_) (a' := ?_) #[true, true, false, true, true, false, false, false, false, false, false, false, false, false, false, false, false, false, false, false, false] rfl rfl (take_ofW HT_.out HW_.out (by kernel_rfl)) (fun _ _ _ h => h) (Or.inl ⟨by rfl, ?_⟩) hHeld ?_ ?_
           rotate_left
           ·rintro w' ⟨s0, s1, s2, s3⟩
            go_simp
            with_reducible rfl
           rotate_left
           ·simp only [Act.put, List.setIfInBounds_toArray, List.set_cons_zero, List.set_cons_succ, i64_w, i32_w]
            rfl
           refine one_ (i := 2) (N := some 76) #[true, true, true, true, true, false, false, false, false, false, false, false, false, false, false, false, false, false, false, false, false] rfl rfl (one_of HT_.out (by kernel_rfl)) (by decide) (fun K hK => ?_)
           refine goes_ Try.func38 (by kernel_rfl) rfl #[.agg #[.int .i64 t449, .slice Ao21 t450.length co21], .slice Ao115 x9_2.length co115] (by rfl) rfl rfl (by (try simp only [List.map_toArray, List.map_cons, List.map_nil]); first | done | rfl | (simp only [List.length_drop, List.length_take]; rfl)) ?_
           with_reducible refine (impl_Satisfies.calls k2 t449 _ _ t450 _ _ x9_2 t474 _ ?side1 ?side2 ?side3 ?side4 A59.out).mono ?_
           (case side1 => exact mc ((Kd.S_reads' HO_455001.out).2.2))
           (case side2 => exact (Kd.S_reads' HO_455001.out).2.1)
           (case side3 => exact mc ((Kd.R_reads' HO_9.out).2.2))
           (case side4 => exact (Kd.R_reads' HO_9.out).2.1)
           rintro e w118 ⟨rfl, hb⟩
           refine ⟨_, rfl, ?_⟩
           have n0_ := rb HO_9 hb
           have n1_ := Aside0.mk (Kd.S_below (by (with_reducible repeat (first | apply Kd.S_alloc | apply Kd.S_drewN | apply Kd.S_drew)); exact HO_448001.out) hb)
           have n2_ := rb HO_449001 hb
           have n3_ := Aside0.mk (Kd.S_below (by (with_reducible repeat (first | apply Kd.S_alloc | apply Kd.S_drewN | apply Kd.S_drew)); exact HO_455001.out) hb)
           have n4_ := Aside0.mk (Kd.S_below (by (with_reducible repeat (first | apply Kd.S_alloc | apply Kd.S_drewN | apply Kd.S_drew)); exact HO_461001.out) hb)
           have n5_ := bb BK447 hb
           have n6_ := bb BK448 hb
           have n7_ := bb BK454 hb
           have n8_ := bb BK460 hb
           have n9_ := bs HB hb
           clear HO_9
           clear HO_448001
           clear HO_449001
           clear HO_455001
           clear HO_461001
           clear BK447
           clear BK448
           clear BK454
           clear BK460
           clear HB
           have HO_9 := n0_
           have HO_448001 := n1_
           have HO_449001 := n2_
           have HO_455001 := n3_
           have HO_461001 := n4_
           have BK447 := n5_
           have BK448 := n6_
           have BK454 := n7_
           have BK460 := n8_
           have HB := n9_
           clear n0_ n1_ n2_ n3_ n4_ n5_ n6_ n7_ n8_ n9_
           (try clear hb)
           (try clear hb2)
           (try clear hk)
           (try clear hi)
           refine hK.out _ _ ⟨(c2 BK454).1, (c2 BK454).2, (c2 BK447).1, (c2 BK447).2⟩ (fun hHeld => ?_)
           clear hK K
           refine norm_ (a' := ?_) ?_ ?_
           rotate_left
           ·show Act.put _ (some 76) _ = _
            simp only [Act.put, List.setIfInBounds_toArray, List.set_cons_zero, List.set_cons_succ, i64_w, i32_w]
            rfl
           refine one_ (i := 5) (N := some 79) #[true, true, true, true, true, true, false, false, false, false, false, false, false, false, false, false, false, false, false, false, false] rfl rfl (one_of HT_.out (by kernel_rfl)) (by decide) (fun K hK => ?_)
           refine goes_ Try.func38 (by kernel_rfl) rfl #[.agg #[.int .i64 t439, .slice Ao13 t440.length co13], .slice Ao115 x9_2.length co115] (by rfl) rfl rfl (by (try simp only [List.map_toArray, List.map_cons, List.map_nil]); first | done | rfl | (simp only [List.length_drop, List.length_take]; rfl)) ?_
           with_reducible refine (impl_Satisfies.calls k2 t439 _ _ t440 _ _ x9_2 false _ ?side1 ?side2 ?side3 ?side4 A60.out).mono ?_
           (case side1 => exact mc ((Kd.S_reads' HO_448001.out).2.2))
           (case side2 => exact (Kd.S_reads' HO_448001.out).2.1)
           (case side3 => exact mc ((Kd.R_reads' HO_9.out).2.2))
           (case side4 => exact (Kd.R_reads' HO_9.out).2.1)
           rintro e w119 ⟨rfl, hb⟩
           refine ⟨_, rfl, ?_⟩
           have n0_ := rb HO_9 hb
           have n1_ := Aside0.mk (Kd.S_below (by (with_reducible repeat (first | apply Kd.S_alloc | apply Kd.S_drewN | apply Kd.S_drew)); exact HO_448001.out) hb)
           have n2_ := rb HO_449001 hb
           have n3_ := Aside0.mk (Kd.S_below (by (with_reducible repeat (first | apply Kd.S_alloc | apply Kd.S_drewN | apply Kd.S_drew)); exact HO_455001.out) hb)
           have n4_ := Aside0.mk (Kd.S_below (by (with_reducible repeat (first | apply Kd.S_alloc | apply Kd.S_drewN | apply Kd.S_drew)); exact HO_461001.out) hb)
           have n5_ := bb BK447 hb
           have n6_ := bb BK448 hb
           have n7_ := bb BK454 hb
           have n8_ := bb BK460 hb
           have n9_ := bs HB hb
           clear HO_9
           clear HO_448001
           clear HO_449001
           clear HO_455001
           clear HO_461001
           clear BK447
           clear BK448
           clear BK454
           clear BK460
           clear HB
           have HO_9 := n0_
           have HO_448001 := n1_
           have HO_449001 := n2_
           have HO_455001 := n3_
           have HO_461001 := n4_
           have BK447 := n5_
           have BK448 := n6_
           have BK454 := n7_
           have BK460 := n8_
           have HB := n9_
           clear n0_ n1_ n2_ n3_ n4_ n5_ n6_ n7_ n8_ n9_
           (try clear hb)
           (try clear hb2)
           (try clear hk)
           (try clear hi)
           refine hK.out _ _ ⟨(c2 BK454).1, (c2 BK454).2, (c2 BK447).1, (c2 BK447).2⟩ (fun hHeld => ?_)
           clear hK K
           refine norm_ (a' := ?_) ?_ ?_
           rotate_left
           ·show Act.put _ (some 79) _ = _
            simp only [Act.put, List.setIfInBounds_toArray, List.set_cons_zero, List.set_cons_succ, i64_w, i32_w]
            rfl
           refine pure_ (i := 6) (N := some 80) (v := ?_) (a' := ?_) #[true, true, true, true, true, true, true, false, false, false, false, false, false, false, false, false, false, false, false, false, false] rfl rfl (any_of HT_.out (by kernel_rfl)) (fun _ _ _ h => h) (Or.inl ⟨by rfl, ?_⟩) ?_ ?_
           rotate_left
           ·intro w'
            go_simp
            with_reducible rfl
           rotate_left
           ·simp only [Act.put, List.setIfInBounds_toArray, List.set_cons_zero, List.set_cons_succ, i64_w, i32_w]
            rfl
           refine pure_ (i := 7) (N := some 81) (v := undef) (a' := ?_) #[true, true, true, true, true, true, true, true, false, false, false, false, false, false, false, false, false, false, false, false, false] rfl rfl (any_of HT_.out (by kernel_rfl)) (fun _ _ _ h => h) (Or.inr ⟨by rfl, rfl⟩) ?_ ?_
           rotate_left
           ·simp only [Act.put, List.setIfInBounds_toArray, List.set_cons_zero, List.set_cons_succ, i64_w, i32_w]
            rfl
           refine pure_ (i := 8) (N := some 82) (v := undef) (a' := ?_) #[true, true, true, true, true, true, true, true, true, false, false, false, false, false, false, false, false, false, false, false, false] rfl rfl (any_of HT_.out (by kernel_rfl)) (fun _ _ _ h => h) (Or.inr ⟨by rfl, rfl⟩) ?_ ?_
           rotate_left
           ·simp only [Act.put, List.setIfInBounds_toArray, List.set_cons_zero, List.set_cons_succ, i64_w, i32_w]
            rfl
           refine pure_ (i := 9) (N := some 83) (v := ?_) (a' := ?_) #[true, true, true, true, true, true, true, true, true, true, false, false, false, false, false, false, false, false, false, false, false] rfl rfl (any_of HT_.out (by kernel_rfl)) (fun _ _ _ h => h) (Or.inl ⟨by rfl, ?_⟩) ?_ ?_
           rotate_left
           ·intro w'
            go_simp
            with_reducible rfl
           rotate_left
           ·simp only [Act.put, List.setIfInBounds_toArray, List.set_cons_zero, List.set_cons_succ, i64_w, i32_w]
            rfl
           refine pure_ (i := 10) (N := some 84) (v := ?_) (a' := ?_) #[true, true, true, true, true, true, true, true, true, true, true, false, false, false, false, false, false, false, false, false, false] rfl rfl (any_of HT_.out (by kernel_rfl)) (fun _ _ _ h => h) (Or.inl ⟨by rfl, ?_⟩) ?_ ?_
           rotate_left
           ·intro w'
            go_simp
            with_reducible rfl
           rotate_left
           ·simp only [Act.put, List.setIfInBounds_toArray, List.set_cons_zero, List.set_cons_succ, i64_w, i32_w]
            rfl
           refine pure_ (i := 11) (N := some 85) (v := ?_) (a' := ?_) #[true, true, true, true, true, true, true, true, true, true, true, true, false, false, false, false, false, false, false, false, false] rfl rfl (any_of HT_.out (by kernel_rfl)) (fun _ _ _ h => h) (Or.inl ⟨by rfl, ?_⟩) ?_ ?_
           rotate_left
           ·intro w'
            go_simp
            with_reducible rfl
           rotate_left
           ·simp only [Act.put, List.setIfInBounds_toArray, List.set_cons_zero, List.set_cons_succ, i64_w, i32_w]
            rfl
           refine pure_ (i := 12) (N := some 86) (v := undef) (a' := ?_) #[true, true, true, true, true, true, true, true, true, true, true, true, true, false, false, false, false, false, false, false, false] rfl rfl (any_of HT_.out (by kernel_rfl)) (fun _ _ _ h => h) (Or.inr ⟨by rfl, rfl⟩) ?_ ?_
           rotate_left
           ·simp only [Act.put, List.setIfInBounds_toArray, List.set_cons_zero, List.set_cons_succ, i64_w, i32_w]
            rfl
           refine pure_ (i := 13) (N := some 87) (v := undef) (a' := ?_) #[true, true, true, true, true, true, true, true, true, true, true, true, true, true, false, false, false, false, false, false, false] rfl rfl (any_of HT_.out (by kernel_rfl)) (fun _ _ _ h => h) (Or.inr ⟨by rfl, rfl⟩) ?_ ?_
           rotate_left
           ·simp only [Act.put, List.setIfInBounds_toArray, List.set_cons_zero, List.set_cons_succ, i64_w, i32_w]
            rfl
           refine pure_ (i := 14) (N := some 88) (v := undef) (a' := ?_) #[true, true, true, true, true, true, true, true, true, true, true, true, true, true, true, false, false, false, false, false, false] rfl rfl (any_of HT_.out (by kernel_rfl)) (fun _ _ _ h => h) (Or.inr ⟨by rfl, rfl⟩) ?_ ?_
           rotate_left
           ·simp only [Act.put, List.setIfInBounds_toArray, List.set_cons_zero, List.set_cons_succ, i64_w, i32_w]
            rfl
           refine pure_ (i := 15) (N := some 89) (v := undef) (a' := ?_) #[true, true, true, true, true, true, true, true, true, true, true, true, true, true, true, true, false, false, false, false, false] rfl rfl (any_of HT_.out (by kernel_rfl)) (fun _ _ _ h => h) (Or.inr ⟨by rfl, rfl⟩) ?_ ?_
           rotate_left
           ·simp only [Act.put, List.setIfInBounds_toArray, List.set_cons_zero, List.set_cons_succ, i64_w, i32_w]
            rfl
           refine pure_ (i := 16) (N := some 90) (v := undef) (a' := ?_) #[true, true, true, true, true, true, true, true, true, true, true, true, true, true, true, true, true, false, false, false, false] rfl rfl (any_of HT_.out (by kernel_rfl)) (fun _ _ _ h => h) (Or.inr ⟨by rfl, rfl⟩) ?_ ?_
           rotate_left
           ·simp only [Act.put, List.setIfInBounds_toArray, List.set_cons_zero, List.set_cons_succ, i64_w, i32_w]
            rfl
           refine pure_ (i := 17) (N := some 91) (v := undef) (a' := ?_) #[true, true, true, true, true, true, true, true, true, true, true, true, true, true, true, true, true, true, false, false, false] rfl rfl (any_of HT_.out (by kernel_rfl)) (fun _ _ _ h => h) (Or.inr ⟨by rfl, rfl⟩) ?_ ?_
           rotate_left
           ·simp only [Act.put, List.setIfInBounds_toArray, List.set_cons_zero, List.set_cons_succ, i64_w, i32_w]
            rfl
           refine pure_ (i := 18) (N := some 92) (v := undef) (a' := ?_) #[true, true, true, true, true, true, true, true, true, true, true, true, true, true, true, true, true, true, true, false, false] rfl rfl (any_of HT_.out (by kernel_rfl)) (fun _ _ _ h => h) (Or.inr ⟨by rfl, rfl⟩) ?_ ?_
           rotate_left
           ·simp only [Act.put, List.setIfInBounds_toArray, List.set_cons_zero, List.set_cons_succ, i64_w, i32_w]
            rfl
           refine pure_ (i := 19) (N := some 93) (v := ?_) (a' := ?_) #[true, true, true, true, true, true, true, true, true, true, true, true, true, true, true, true, true, true, true, true, false] rfl rfl (any_of HT_.out (by kernel_rfl)) (fun _ _ _ h => h) (Or.inl ⟨by rfl, ?_⟩) ?_ ?_
           rotate_left
           ·intro w'
            go_simp
            with_reducible rfl
           rotate_left
           ·simp only [Act.put, List.setIfInBounds_toArray, List.set_cons_zero, List.set_cons_succ, i64_w, i32_w]
            rfl
           refine pure_ (i := 20) (N := some 2) (v := ?_) (a' := ?_) #[true, true, true, true, true, true, true, true, true, true, true, true, true, true, true, true, true, true, true, true, true] rfl rfl (any_of HT_.out (by kernel_rfl)) (fun _ _ _ h => h) (Or.inl ⟨by rfl, ?_⟩) ?_ ?_
           rotate_left
           ·intro w'
            go_simp
            with_reducible rfl
           rotate_left
           ·simp only [Act.put, List.setIfInBounds_toArray, List.set_cons_zero, List.set_cons_succ, i64_w, i32_w]
            rfl
           refine done_ (done_of HT_.out (by kernel_rfl)) ?_
           try go_wp2
           go_ret
           exact ⟨by first | rfl | (simp [errW_none, errW_some] <;> rfl) | (simp [*, errW_none, errW_some] <;> rfl), ms HB⟩
     ·replace c47 := Bool.eq_false_iff.mpr c47
      subst c47
      have H1 : ((spec_EqualSystem.f kj6 t449 t450 t439 t440).bind fun t464 => (some t464)) = some r := by rw [if_neg (show ¬ (false = true) by decide)] at H; exact H
      clear H
      have H := H1
      clear H1
      replace H := Option.bind_eq_some_iff.mp H
      obtain ⟨t464, A1200, H⟩ := H
      replace H : (some t464) = some r := H
      have A120 := Aside0.mk A1200
      clear A1200
      obtain rfl := Option.some.inj H
      have hnb121 := NB454_447.out
      have hnc121 := NB447_454.out
      have hnb122 := NB454_448.out
      have hnc122 := NB448_454.out
      have hnb123 := NB454_460.out
      have hnc123 := NB460_454.out
      obtain ⟨hcz124_0, hcz124_1⟩ := c2 BK454
      have hfz124_0 := blk_frozen BK454.out 0
      have hfz124_1 := blk_frozen BK454.out 1
      have hnb125 := NB447_448.out
      have hnc125 := NB448_447.out
      have hnb126 := NB447_460.out
      have hnc126 := NB460_447.out
      obtain ⟨hcz127_0, hcz127_1⟩ := c2 BK447
      have hfz127_0 := blk_frozen BK447.out 0
      have hfz127_1 := blk_frozen BK447.out 1
      go_wp2_with (first | ((with_reducible refine gate_callee (f := 35) rfl ?_); refine goesL_ (some 52) rfl rfl Try.func35 (by kernel_rfl) rfl #[.agg #[.int .i64 t449, .slice Ao21 t450.length co21], .agg #[.int .i64 t439, .slice Ao13 t440.length co13]] rfl (by (try simp only [List.map_toArray, List.map_cons, List.map_nil]); first | done | rfl | (simp only [List.length_drop, List.length_take]; rfl)) ?_; (with_reducible refine (spec_EqualSystem.calls kj6 t449 _ _ t450 t439 _ _ t440 t464 _ ?side1 ?side2 ?side3 ?side4 A120.out).mono ?_); (case side1 => exact mc ((Kd.S_reads' HO_455001.out).2.2)); (case side2 => exact (Kd.S_reads' HO_455001.out).2.1); (case side3 => exact mc ((Kd.S_reads' HO_448001.out).2.2)); (case side4 => exact (Kd.S_reads' HO_448001.out).2.1); rintro e w128 ⟨rfl, hb⟩; refine ⟨_, rfl, ?_⟩; have n0_ := Aside0.mk (Kd.S_below (by (with_reducible repeat (first | apply Kd.S_alloc | apply Kd.S_drewN | apply Kd.S_drew)); exact HO_448001.out) hb); have n1_ := rb HO_449001 hb; have n2_ := Aside0.mk (Kd.S_below (by (with_reducible repeat (first | apply Kd.S_alloc | apply Kd.S_drewN | apply Kd.S_drew)); exact HO_455001.out) hb); have n3_ := Aside0.mk (Kd.S_below (by (with_reducible repeat (first | apply Kd.S_alloc | apply Kd.S_drewN | apply Kd.S_drew)); exact HO_461001.out) hb); have n4_ := bb BK447 hb; have n5_ := bb BK448 hb; have n6_ := bb BK454 hb; have n7_ := bb BK460 hb; have n8_ := bs HB hb; clear HO_448001 HO_449001 HO_455001 HO_461001 BK447 BK448 BK454 BK460 HB; have HO_448001 := n0_; have HO_449001 := n1_; have HO_455001 := n2_; have HO_461001 := n3_; have BK447 := n4_; have BK448 := n5_; have BK454 := n6_; have BK460 := n7_; have HB := n8_; clear n0_ n1_ n2_ n3_ n4_ n5_ n6_ n7_ n8_; (try clear hb)))
      go_ret
      exact ⟨by first | rfl | (simp [errW_none, errW_some] <;> rfl) | (simp [*, errW_none, errW_some] <;> rfl), ms HB⟩

/-- THE ONE PURE STATEMENT of laws_FnSystems: yours. -/
def laws_FnSystems.Pure : Prop := ∀ (l0 : List Int), l0.length ≤ maxLen → l0.length * 1 ≤ 140737488351232 → (∀ x ∈ l0, (Lit.int .u8 x).wf = true) → ∃ k, laws_FnSystems.f k l0 = some true
theorem laws_FnSystems.walk (P : laws_FnSystems.Pure) (a0 : Option Addr) (len0 cap0 : Nat) (z0 : List Int) (w : World) (w0 : (a0 = none ∧ len0 = 0 ∧ cap0 = 0 ∧ z0 = []) ∨ ∃ x, a0 = some x ∧ len0 ≤ cap0 ∧ cap0 ≤ maxLen ∧ z0.length = cap0 ∧ (∀ i, i < z0.length → w.cell? (x.add i) = some (.int .u8 (z0.getD i 0))) ∧ ∀ n ∈ z0, (Lit.int .u8 n).wf = true) (y0 : len0 * 1 ≤ 140737488351232) :
  Calls Try.prog 6 #[.slice a0 len0 cap0] w fun e w' => e = .returned (.bool true) ∧ Below w.heap.size w w' := by
 obtain ⟨l0, rfl, hr0, hm0, hw0, hc0⟩ := ReadsInt.ofRowC w0
 obtain ⟨k, h⟩ := P l0 hm0 y0 hw0
 refine (laws_FnSystems.calls k _ _ l0 true w (Kd.C_of_reads (d := (0 : Int)) (h1 := fun _ => rfl) hr0) hc0 h).mono ?_
 rintro e w' ⟨rfl, hd⟩
 exact ⟨rfl, hd⟩

end Go.Proofs.Ytghiljjkaiggfaa.QFnSystems
