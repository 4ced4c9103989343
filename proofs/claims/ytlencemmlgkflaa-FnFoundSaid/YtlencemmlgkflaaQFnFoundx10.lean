-- Made by a program of this claim's own (wip/print): not the kit's print as it stands.
import Derived.Test.YtlencemmlgkflaaUFnFoundTri
import Derived.Test.YtlencemmlgkflaaQFnFoundx0
import Derived.Test.YtlencemmlgkflaaQFnFoundx9
namespace Go.Proofs.Ytlencemmlgkflaa.QFnFound
open Go.RowKit Go.Proofs.YtlencemmlgkflaaV.PrintWords Go.Proofs.YtlencemmlgkflaaV.PrintLast Go.Proofs.YtlencemmlgkflaaV.PrintMore
attribute [local go_sem] max2_int min2_int max_two min_two max_three min_three max_four min_four   -- for this text's walks alone
set_option linter.unusedVariables false
set_option linter.unusedSimpArgs false

/-! ### impl_MulLimited: function 147 -/
def impl_MulLimited.f (a0 : Int) (a1 : Int) : Option (Int × Bool) := (impl_coeffOk.f a0).bind fun t358 => (if t358 = true then ((impl_coeffOk.f a1).bind fun t359 => (if t359 = true then ((impl_coeffOk.f (wrap64 (a0 * a1))).bind fun t360 => (if t360 = true then (some (wrap64 (a0 * a1), true)) else (some (0, false)))) else (some (0, false)))) else (some (0, false)))
set_option maxHeartbeats 8000000 in
set_option maxRecDepth 100000 in
theorem impl_MulLimited.calls (a0 : Int) (a1 : Int) (r1 : Int) (r2 : Bool) (w : World) (h : impl_MulLimited.f a0 a1 = some (r1, r2)) :
  Calls Try.prog 147 #[.int .i64 a0, .int .i64 a1] w fun e w' => e = .returned (.tuple #[.int .i64 r1, .bool r2]) ∧ Drawn0 w w' := by
 have H : ((impl_coeffOk.f a0).bind fun t358 => (if t358 = true then ((impl_coeffOk.f a1).bind fun t359 => (if t359 = true then ((impl_coeffOk.f (wrap64 (a0 * a1))).bind fun t360 => (if t360 = true then (some (wrap64 (a0 * a1), true)) else (some (0, false)))) else (some (0, false)))) else (some (0, false)))) = some (r1, r2) := h
 clear h
 obtain ⟨t358, A30, H⟩ := Option.bind_eq_some_iff.mp H
 try dsimp only at H
 have A3 := Aside0.mk A30; clear A30
 by_cases c4 : t358 = true
 ·subst c4
  rw [if_pos rfl] at H
  obtain ⟨t359, A50, H⟩ := Option.bind_eq_some_iff.mp H
  try dsimp only at H
  have A5 := Aside0.mk A50; clear A50
  by_cases c6 : t359 = true
  ·subst c6
   rw [if_pos rfl] at H
   obtain ⟨t360, A70, H⟩ := Option.bind_eq_some_iff.mp H
   try dsimp only at H
   have A7 := Aside0.mk A70; clear A70
   by_cases c8 : t360 = true
   ·subst c8
    rw [if_pos rfl] at H
    simp only [Option.some.injEq, Prod.mk.injEq] at H
    obtain ⟨rfl, rfl⟩ := H
    go_enter Try.func147, Try.ntmps147
    go_wp2_with (first | ((with_reducible refine gate_callee (f := 122) rfl ?_); refine gl (some 7) rfl rfl Try.func122 (by kernel_rfl) rfl #[.int .i64 a0] rfl ?_; (with_reducible refine (impl_coeffOk.calls a0 true _ A3.out).mono ?_); rintro e w' ⟨rfl, ⟨nd, rfl⟩⟩; refine ⟨_, rfl, ?_⟩) | (go_at_call 122; (with_reducible refine (impl_coeffOk.calls a1 true _ A5.out).mono ?_); rintro e w' ⟨rfl, ⟨nd, rfl⟩⟩) | (go_at_call 122; (with_reducible refine (impl_coeffOk.calls (wrap64 (a0 * a1)) true _ A7.out).mono ?_); rintro e w' ⟨rfl, ⟨nd, rfl⟩⟩))
    go_ret2
    exact ⟨by first | rfl | (simp; done) | (simp [*]; done), by repeat (first | exact Drawn0.refl _ | apply Drawn0.step)⟩
   replace c8 := Bool.eq_false_iff.mpr c8
   subst c8
   rw [if_neg (show ¬ (false = true) by decide)] at H
   simp only [Option.some.injEq, Prod.mk.injEq] at H
   obtain ⟨rfl, rfl⟩ := H
   go_enter Try.func147, Try.ntmps147
   go_wp2_with (first | ((with_reducible refine gate_callee (f := 122) rfl ?_); refine gl (some 7) rfl rfl Try.func122 (by kernel_rfl) rfl #[.int .i64 a0] rfl ?_; (with_reducible refine (impl_coeffOk.calls a0 true _ A3.out).mono ?_); rintro e w' ⟨rfl, ⟨nd, rfl⟩⟩; refine ⟨_, rfl, ?_⟩) | (go_at_call 122; (with_reducible refine (impl_coeffOk.calls a1 true _ A5.out).mono ?_); rintro e w' ⟨rfl, ⟨nd, rfl⟩⟩) | (go_at_call 122; (with_reducible refine (impl_coeffOk.calls (wrap64 (a0 * a1)) false _ A7.out).mono ?_); rintro e w' ⟨rfl, ⟨nd, rfl⟩⟩))
   go_ret2
   exact ⟨by first | rfl | (simp; done) | (simp [*]; done), by repeat (first | exact Drawn0.refl _ | apply Drawn0.step)⟩
  replace c6 := Bool.eq_false_iff.mpr c6
  subst c6
  rw [if_neg (show ¬ (false = true) by decide)] at H
  simp only [Option.some.injEq, Prod.mk.injEq] at H
  obtain ⟨rfl, rfl⟩ := H
  go_enter Try.func147, Try.ntmps147
  go_wp2_with (first | ((with_reducible refine gate_callee (f := 122) rfl ?_); refine gl (some 7) rfl rfl Try.func122 (by kernel_rfl) rfl #[.int .i64 a0] rfl ?_; (with_reducible refine (impl_coeffOk.calls a0 true _ A3.out).mono ?_); rintro e w' ⟨rfl, ⟨nd, rfl⟩⟩; refine ⟨_, rfl, ?_⟩) | (go_at_call 122; (with_reducible refine (impl_coeffOk.calls a1 false _ A5.out).mono ?_); rintro e w' ⟨rfl, ⟨nd, rfl⟩⟩))
  go_ret2
  exact ⟨by first | rfl | (simp; done) | (simp [*]; done), by repeat (first | exact Drawn0.refl _ | apply Drawn0.step)⟩
 replace c4 := Bool.eq_false_iff.mpr c4
 subst c4
 rw [if_neg (show ¬ (false = true) by decide)] at H
 simp only [Option.some.injEq, Prod.mk.injEq] at H
 obtain ⟨rfl, rfl⟩ := H
 go_enter Try.func147, Try.ntmps147
 go_wp2_with (((with_reducible refine gate_callee (f := 122) rfl ?_); refine gl (some 7) rfl rfl Try.func122 (by kernel_rfl) rfl #[.int .i64 a0] rfl ?_; (with_reducible refine (impl_coeffOk.calls a0 false _ A3.out).mono ?_); rintro e w' ⟨rfl, ⟨nd, rfl⟩⟩; refine ⟨_, rfl, ?_⟩))
 go_ret2
 exact ⟨by first | rfl | (simp; done) | (simp [*]; done), by repeat (first | exact Drawn0.refl _ | apply Drawn0.step)⟩

/-! ### impl_AddLimited: function 148 -/
def impl_AddLimited.f (a0 : Int) (a1 : Int) : Option (Int × Bool) := (impl_coeffOk.f a0).bind fun t361 => (if t361 = true then ((impl_coeffOk.f a1).bind fun t362 => (if t362 = true then ((impl_coeffOk.f (wrap64 (a0 + a1))).bind fun t363 => (if t363 = true then (some (wrap64 (a0 + a1), true)) else (some (0, false)))) else (some (0, false)))) else (some (0, false)))
set_option maxHeartbeats 8000000 in
set_option maxRecDepth 100000 in
theorem impl_AddLimited.calls (a0 : Int) (a1 : Int) (r1 : Int) (r2 : Bool) (w : World) (h : impl_AddLimited.f a0 a1 = some (r1, r2)) :
  Calls Try.prog 148 #[.int .i64 a0, .int .i64 a1] w fun e w' => e = .returned (.tuple #[.int .i64 r1, .bool r2]) ∧ Drawn0 w w' := by
 have H : ((impl_coeffOk.f a0).bind fun t361 => (if t361 = true then ((impl_coeffOk.f a1).bind fun t362 => (if t362 = true then ((impl_coeffOk.f (wrap64 (a0 + a1))).bind fun t363 => (if t363 = true then (some (wrap64 (a0 + a1), true)) else (some (0, false)))) else (some (0, false)))) else (some (0, false)))) = some (r1, r2) := h
 clear h
 obtain ⟨t361, A30, H⟩ := Option.bind_eq_some_iff.mp H
 try dsimp only at H
 have A3 := Aside0.mk A30; clear A30
 by_cases c4 : t361 = true
 ·subst c4
  rw [if_pos rfl] at H
  obtain ⟨t362, A50, H⟩ := Option.bind_eq_some_iff.mp H
  try dsimp only at H
  have A5 := Aside0.mk A50; clear A50
  by_cases c6 : t362 = true
  ·subst c6
   rw [if_pos rfl] at H
   obtain ⟨t363, A70, H⟩ := Option.bind_eq_some_iff.mp H
   try dsimp only at H
   have A7 := Aside0.mk A70; clear A70
   by_cases c8 : t363 = true
   ·subst c8
    rw [if_pos rfl] at H
    simp only [Option.some.injEq, Prod.mk.injEq] at H
    obtain ⟨rfl, rfl⟩ := H
    go_enter Try.func148, Try.ntmps148
    go_wp2_with (first | ((with_reducible refine gate_callee (f := 122) rfl ?_); refine gl (some 7) rfl rfl Try.func122 (by kernel_rfl) rfl #[.int .i64 a0] rfl ?_; (with_reducible refine (impl_coeffOk.calls a0 true _ A3.out).mono ?_); rintro e w' ⟨rfl, ⟨nd, rfl⟩⟩; refine ⟨_, rfl, ?_⟩) | (go_at_call 122; (with_reducible refine (impl_coeffOk.calls a1 true _ A5.out).mono ?_); rintro e w' ⟨rfl, ⟨nd, rfl⟩⟩) | (go_at_call 122; (with_reducible refine (impl_coeffOk.calls (wrap64 (a0 + a1)) true _ A7.out).mono ?_); rintro e w' ⟨rfl, ⟨nd, rfl⟩⟩))
    go_ret2
    exact ⟨by first | rfl | (simp; done) | (simp [*]; done), by repeat (first | exact Drawn0.refl _ | apply Drawn0.step)⟩
   replace c8 := Bool.eq_false_iff.mpr c8
   subst c8
   rw [if_neg (show ¬ (false = true) by decide)] at H
   simp only [Option.some.injEq, Prod.mk.injEq] at H
   obtain ⟨rfl, rfl⟩ := H
   go_enter Try.func148, Try.ntmps148
   go_wp2_with (first | ((with_reducible refine gate_callee (f := 122) rfl ?_); refine gl (some 7) rfl rfl Try.func122 (by kernel_rfl) rfl #[.int .i64 a0] rfl ?_; (with_reducible refine (impl_coeffOk.calls a0 true _ A3.out).mono ?_); rintro e w' ⟨rfl, ⟨nd, rfl⟩⟩; refine ⟨_, rfl, ?_⟩) | (go_at_call 122; (with_reducible refine (impl_coeffOk.calls a1 true _ A5.out).mono ?_); rintro e w' ⟨rfl, ⟨nd, rfl⟩⟩) | (go_at_call 122; (with_reducible refine (impl_coeffOk.calls (wrap64 (a0 + a1)) false _ A7.out).mono ?_); rintro e w' ⟨rfl, ⟨nd, rfl⟩⟩))
   go_ret2
   exact ⟨by first | rfl | (simp; done) | (simp [*]; done), by repeat (first | exact Drawn0.refl _ | apply Drawn0.step)⟩
  replace c6 := Bool.eq_false_iff.mpr c6
  subst c6
  rw [if_neg (show ¬ (false = true) by decide)] at H
  simp only [Option.some.injEq, Prod.mk.injEq] at H
  obtain ⟨rfl, rfl⟩ := H
  go_enter Try.func148, Try.ntmps148
  go_wp2_with (first | ((with_reducible refine gate_callee (f := 122) rfl ?_); refine gl (some 7) rfl rfl Try.func122 (by kernel_rfl) rfl #[.int .i64 a0] rfl ?_; (with_reducible refine (impl_coeffOk.calls a0 true _ A3.out).mono ?_); rintro e w' ⟨rfl, ⟨nd, rfl⟩⟩; refine ⟨_, rfl, ?_⟩) | (go_at_call 122; (with_reducible refine (impl_coeffOk.calls a1 false _ A5.out).mono ?_); rintro e w' ⟨rfl, ⟨nd, rfl⟩⟩))
  go_ret2
  exact ⟨by first | rfl | (simp; done) | (simp [*]; done), by repeat (first | exact Drawn0.refl _ | apply Drawn0.step)⟩
 replace c4 := Bool.eq_false_iff.mpr c4
 subst c4
 rw [if_neg (show ¬ (false = true) by decide)] at H
 simp only [Option.some.injEq, Prod.mk.injEq] at H
 obtain ⟨rfl, rfl⟩ := H
 go_enter Try.func148, Try.ntmps148
 go_wp2_with (((with_reducible refine gate_callee (f := 122) rfl ?_); refine gl (some 7) rfl rfl Try.func122 (by kernel_rfl) rfl #[.int .i64 a0] rfl ?_; (with_reducible refine (impl_coeffOk.calls a0 false _ A3.out).mono ?_); rintro e w' ⟨rfl, ⟨nd, rfl⟩⟩; refine ⟨_, rfl, ?_⟩))
 go_ret2
 exact ⟨by first | rfl | (simp; done) | (simp [*]; done), by repeat (first | exact Drawn0.refl _ | apply Drawn0.step)⟩

/-! ### impl_scaled: function 124 -/
def impl_scaled.f (a0 : Int) (a1 : Int) (a2 : Int) : Option (Int × Bool) := (impl_MulLimited.f a1 a2).bind fun bt364 => ((impl_AddLimited.f a0 bt364.1).bind fun bt366 => (if bt364.2 = true then (some (bt366.1, bt366.2)) else (some (bt366.1, false))))
set_option maxHeartbeats 8000000 in
set_option maxRecDepth 100000 in
theorem impl_scaled.calls (a0 : Int) (a1 : Int) (a2 : Int) (r1 : Int) (r2 : Bool) (w : World) (h : impl_scaled.f a0 a1 a2 = some (r1, r2)) :
  Calls Try.prog 124 #[.int .i64 a0, .int .i64 a1, .int .i64 a2] w fun e w' => e = .returned (.tuple #[.int .i64 r1, .bool r2]) ∧ Drawn0 w w' := by
 have H : ((impl_MulLimited.f a1 a2).bind fun bt364 => ((impl_AddLimited.f a0 bt364.1).bind fun bt366 => (if bt364.2 = true then (some (bt366.1, bt366.2)) else (some (bt366.1, false))))) = some (r1, r2) := h
 clear h
 obtain ⟨⟨t364, t365⟩, A40, H⟩ := Option.bind_eq_some_iff.mp H
 try dsimp only at H
 have A4 := Aside0.mk A40; clear A40
 obtain ⟨⟨t366, t367⟩, A50, H⟩ := Option.bind_eq_some_iff.mp H
 try dsimp only at H
 have A5 := Aside0.mk A50; clear A50
 by_cases c6 : t365 = true
 ·subst c6
  rw [if_pos rfl] at H
  simp only [Option.some.injEq, Prod.mk.injEq] at H
  obtain ⟨rfl, rfl⟩ := H
  go_enter Try.func124, Try.ntmps124
  go_wp2_with (first | ((with_reducible refine gate_callee (f := 147) rfl ?_); refine gl (some 15) rfl rfl Try.func147 (by kernel_rfl) rfl #[.int .i64 a1, .int .i64 a2] rfl ?_; (with_reducible refine (impl_MulLimited.calls a1 a2 t364 true _ A4.out).mono ?_); rintro e w' ⟨rfl, ⟨nd, rfl⟩⟩; refine ⟨_, rfl, ?_⟩) | ((with_reducible refine gate_callee (f := 148) rfl ?_); refine gl (some 21) rfl rfl Try.func148 (by kernel_rfl) rfl #[.int .i64 a0, .int .i64 t364] rfl ?_; (with_reducible refine (impl_AddLimited.calls a0 t364 t366 t367 _ A5.out).mono ?_); rintro e w' ⟨rfl, ⟨nd, rfl⟩⟩; refine ⟨_, rfl, ?_⟩))
  go_ret2
  exact ⟨by first | rfl | (simp; done) | (simp [*]; done), by repeat (first | exact Drawn0.refl _ | apply Drawn0.step)⟩
 replace c6 := Bool.eq_false_iff.mpr c6
 subst c6
 rw [if_neg (show ¬ (false = true) by decide)] at H
 simp only [Option.some.injEq, Prod.mk.injEq] at H
 obtain ⟨rfl, rfl⟩ := H
 go_enter Try.func124, Try.ntmps124
 go_wp2_with (first | ((with_reducible refine gate_callee (f := 147) rfl ?_); refine gl (some 15) rfl rfl Try.func147 (by kernel_rfl) rfl #[.int .i64 a1, .int .i64 a2] rfl ?_; (with_reducible refine (impl_MulLimited.calls a1 a2 t364 false _ A4.out).mono ?_); rintro e w' ⟨rfl, ⟨nd, rfl⟩⟩; refine ⟨_, rfl, ?_⟩) | ((with_reducible refine gate_callee (f := 148) rfl ?_); refine gl (some 21) rfl rfl Try.func148 (by kernel_rfl) rfl #[.int .i64 a0, .int .i64 t364] rfl ?_; (with_reducible refine (impl_AddLimited.calls a0 t364 t366 t367 _ A5.out).mono ?_); rintro e w' ⟨rfl, ⟨nd, rfl⟩⟩; refine ⟨_, rfl, ?_⟩))
 go_ret2
 exact ⟨by first | rfl | (simp; done) | (simp [*]; done), by repeat (first | exact Drawn0.refl _ | apply Drawn0.step)⟩

/-! ### impl_AddScaled: function 75 -/
mutual
def impl_AddScaled.j0 : Nat → Int → Int → Bool → Int → List Int → Int → List Int → Option (Int × List Int × Bool)
 | 0, _, _, _, _, _, _, _ => none
 | k + 1, x1, x8, x32, x369000, x369001, x370000, x370001 => if x32 = true then (some (0, ([] : List Int), false)) else ((impl_ConstLin.f 0 x8).bind fun bt374 => ((impl_scaled.f x369000 x1 x370000).bind fun bt379 => (impl_AddScaled.l0 k x1 bt379.2 (x369001.length : Int) 0 x369000 x369001 x370000 x370001 bt379.1 bt374.2)))
def impl_AddScaled.l0 : Nat → Int → Bool → Int → Int → Int → List Int → Int → List Int → Int → List Int → Option (Int × List Int × Bool)
 | 0, _, _, _, _, _, _, _, _, _, _ => none
 | k + 1, x1, x11, x49, x50, x369000, x369001, x370000, x370001, x379000, x379001 => if x50 < x49 then (if 0 ≤ x50 then (if x50 < (x369001.length : Int) then (if x50 < (x370001.length : Int) then ((impl_scaled.f (rd x369001 x50) x1 (rd x370001 x50)).bind fun bt383 => (if x50 < (x379001.length : Int) then ((some (x379001.set (x50 : Int).toNat bt383.1 : List Int)).bind fun y385 => (if x11 = true then (impl_AddScaled.l0 k x1 bt383.2 x49 (wrap64 (x50 + 1)) x369000 x369001 x370000 x370001 x379000 y385) else (impl_AddScaled.l0 k x1 false x49 (wrap64 (x50 + 1)) x369000 x369001 x370000 x370001 x379000 y385))) else (none))) else (none)) else (none)) else (none)) else (if x11 = true then (some (x379000, x379001, true)) else (some (0, ([] : List Int), false)))
end
def impl_AddScaled.f (k : Nat) (a0_0 : Int) (l0_1 : List Int) (a1 : Int) (a2_0 : Int) (l2_1 : List Int) : Option (Int × List Int × Bool) := (impl_IsValidLin.f k a0_0 l0_1 (l0_1.length : Int)).bind fun t371 => (if t371 = true then ((impl_IsValidLin.f k a2_0 l2_1 (l0_1.length : Int)).bind fun t372 => (if t372 = true then ((impl_coeffOk.f a1).bind fun t373 => (impl_AddScaled.j0 k a1 (l0_1.length : Int) (!t373) a0_0 l0_1 a2_0 l2_1)) else (impl_AddScaled.j0 k a1 (l0_1.length : Int) true a0_0 l0_1 a2_0 l2_1))) else (impl_AddScaled.j0 k a1 (l0_1.length : Int) true a0_0 l0_1 a2_0 l2_1))
theorem impl_AddScaled.mono_l : ∀ k, (∀ y0 y1 y2 y3 y4 y5 y6, LeO (impl_AddScaled.j0 k y0 y1 y2 y3 y4 y5 y6) (impl_AddScaled.j0 (k + 1) y0 y1 y2 y3 y4 y5 y6)) ∧ (∀ y0 y1 y2 y3 y4 y5 y6 y7 y8 y9, LeO (impl_AddScaled.l0 k y0 y1 y2 y3 y4 y5 y6 y7 y8 y9) (impl_AddScaled.l0 (k + 1) y0 y1 y2 y3 y4 y5 y6 y7 y8 y9))
 | 0 => ⟨fun _ _ _ _ _ _ _ r h => by simp [impl_AddScaled.j0] at h, fun _ _ _ _ _ _ _ _ _ _ r h => by simp [impl_AddScaled.l0] at h⟩
 | k + 1 => by
  obtain ⟨ih0, ih1⟩ := impl_AddScaled.mono_l k
  refine ⟨?_, ?_⟩
  ·intro y0 y1 y2 y3 y4 y5 y6
   unfold impl_AddScaled.j0
   repeat' with_reducible first
   | exact ih0 _ _ _ _ _ _ _
   | exact ih1 _ _ _ _ _ _ _ _ _ _
   | exact impl_IsValidLin.mono _ _ _ _
   | exact LeO.refl _
   | exact LeO.none _
   | refine LeO.ite ?_ ?_
   | refine LeO.bind ?_ (fun _ => ?_)
  intro y0 y1 y2 y3 y4 y5 y6 y7 y8 y9
  unfold impl_AddScaled.l0
  repeat' with_reducible first
  | exact ih0 _ _ _ _ _ _ _
  | exact ih1 _ _ _ _ _ _ _ _ _ _
  | exact impl_IsValidLin.mono _ _ _ _
  | exact LeO.refl _
  | exact LeO.none _
  | refine LeO.ite ?_ ?_
  | refine LeO.bind ?_ (fun _ => ?_)
theorem impl_AddScaled.mono : ∀ a0 a1 a2 a3 a4 k, LeO (impl_AddScaled.f k a0 a1 a2 a3 a4) (impl_AddScaled.f (k + 1) a0 a1 a2 a3 a4) := by
 intro a0 a1 a2 a3 a4 k
 obtain ⟨ih0, ih1⟩ := impl_AddScaled.mono_l k
 unfold impl_AddScaled.f
 repeat' with_reducible first
 | exact ih0 _ _ _ _ _ _ _
 | exact ih1 _ _ _ _ _ _ _ _ _ _
 | exact impl_IsValidLin.mono _ _ _ _
 | exact LeO.refl _
 | exact LeO.none _
 | refine LeO.ite ?_ ?_
 | refine LeO.bind ?_ (fun _ => ?_)
set_option maxHeartbeats 8000000 in
set_option maxRecDepth 100000 in
theorem impl_AddScaled.calls (k : Nat) (a0_0 : Int) (A0_1 : Option Addr) (c0_1 : Nat) (l0_1 : List Int) (a1 : Int) (a2_0 : Int) (A2_1 : Option Addr) (c2_1 : Nat) (l2_1 : List Int) (r1 : Int) (r2 : List Int) (r3 : Bool) (w : World) (hr0_1 : Kd.C (Kd.int .i64) w A0_1 l0_1.length l0_1) (hc0_1 : l0_1.length ≤ c0_1) (hr2_1 : Kd.C (Kd.int .i64) w A2_1 l2_1.length l2_1) (hc2_1 : l2_1.length ≤ c2_1) (h : impl_AddScaled.f k a0_0 l0_1 a1 a2_0 l2_1 = some (r1, r2, r3)) :
  Calls Try.prog 75 #[.agg #[.int .i64 a0_0, .slice A0_1 l0_1.length c0_1], .int .i64 a1, .agg #[.int .i64 a2_0, .slice A2_1 l2_1.length c2_1]] w fun e w' => ∃ v1_ : Value, e = .returned (.tuple #[.agg #[.int .i64 r1, v1_], .bool r3]) ∧ Kd.R (Kd.int .i64) 3 w' w.heap.size (fun _ => True) v1_ r2 ∧ Below w.heap.size w w' := by
 have hu29 := Try.underlying29
 have HR0_1 := Aside0.mk hr0_1
 have HC0_1 := Aside0.mk hc0_1
 clear hr0_1 hc0_1
 have HR2_1 := Aside0.mk hr2_1
 have HC2_1 := Aside0.mk hc2_1
 clear hr2_1 hc2_1
 have HB := Aside0.mk (Below.refl w.heap.size w)
 have H : ((impl_IsValidLin.f k a0_0 l0_1 (l0_1.length : Int)).bind fun t371 => (if t371 = true then ((impl_IsValidLin.f k a2_0 l2_1 (l0_1.length : Int)).bind fun t372 => (if t372 = true then ((impl_coeffOk.f a1).bind fun t373 => (impl_AddScaled.j0 k a1 (l0_1.length : Int) (!t373) a0_0 l0_1 a2_0 l2_1)) else (impl_AddScaled.j0 k a1 (l0_1.length : Int) true a0_0 l0_1 a2_0 l2_1))) else (impl_AddScaled.j0 k a1 (l0_1.length : Int) true a0_0 l0_1 a2_0 l2_1))) = some (r1, r2, r3) := h
 clear h
 have HC4 := Aside0.mk H; clear H
 go_enter Try.func75, Try.ntmps75
 go_upto_region 2 with (first | ((with_reducible refine gate_dst (N := 3) rfl ?_); refine box_event ?hg (N := 3) ?hd (cs := #[.int .i64 a0_0, .slice A0_1 l0_1.length c0_1]) (t := 29) ?hr ?_; (case hd => rfl); (case hg => rfl); (case hr => first | (go_simp; done) | (go_simp; rfl)); intro gb368 hg w5 hbox hb; have BK368 := Aside0.mk (hbox); have GW368 := gw hg HB; have GE368 := gw hg HB; replace HB := bs HB hb; clear hb hbox hg) | ((with_reducible refine gate_dst (N := 5) rfl ?_); refine box_event ?hg (N := 5) ?hd (cs := #[.int .i64 a2_0, .slice A2_1 l2_1.length c2_1]) (t := 29) ?hr ?_; (case hd => rfl); (case hg => rfl); (case hr => first | (go_simp; done) | (go_simp; rfl)); intro gb369 hg w6 hbox hb; have BK369 := Aside0.mk (hbox); have GW369 := gw hg HB; have GE369 := gw hg HB; replace HB := bs HB hb; have NB368_369 := nl hg BK368; have NB369_368 := ng hg BK368; replace BK368 := bb BK368 hb; clear hb hbox hg) | ((with_reducible refine gate_dst (N := 6) rfl ?_); refine box_event ?hg (N := 6) ?hd (cs := #[.int .i64 0, .slice none 0 0]) (t := 29) ?hr ?_; (case hd => rfl); (case hg => rfl); (case hr => first | (go_simp; done) | (go_simp; rfl)); intro gb370 hg w7 hbox hb; have BK370 := Aside0.mk (hbox); have GW370 := gw hg HB; have GE370 := gw hg HB; replace HB := bs HB hb; have NB368_370 := nl hg BK368; have NB370_368 := ng hg BK368; replace BK368 := bb BK368 hb; have NB369_370 := nl hg BK369; have NB370_369 := ng hg BK369; replace BK369 := bb BK369 hb; clear hb hbox hg; have := NB368_369.out; have := NB369_368.out; have := NB368_370.out; have := NB370_368.out; obtain ⟨hcz10_0, hcz10_1, hfz10_0, hfz10_1⟩ := cFour BK368))
 repeat (go_quiet (fail); go_upto_region 2 with (fail))
 (try simp only [Act.put, List.setIfInBounds_toArray, List.set_cons_zero, List.set_cons_succ])
 go_cut [32] (fun v32 wc => ∃ (kq : Nat) (x32_3 : Bool), v32 = .bool x32_3 ∧ Aside0 (impl_AddScaled.j0 kq a1 (l0_1.length : Int) x32_3 a0_0 l0_1 a2_0 l2_1 = some (r1, r2, r3)) ∧ Aside0 (kq ≤ k) ∧ Aside0 (wc.heap[gb368]? = some (.cells #[.int .i64 a0_0, (.slice A0_1 l0_1.length c0_1)] 29 (0, 0))) ∧ Aside0 (wc.heap[gb369]? = some (.cells #[.int .i64 a2_0, (.slice A2_1 l2_1.length c2_1)] 29 (0, 0))) ∧ Aside0 (wc.heap[gb370]? = some (.cells #[.int .i64 0, (.slice none 0 0)] 29 (0, 0))) ∧ Aside0 (Below w.heap.size w wc))
 case first =>
  have H := HC4.out
  clear HC4
  obtain ⟨t371, A110, H⟩ := Option.bind_eq_some_iff.mp H
  try dsimp only at H
  have A11 := Aside0.mk A110; clear A110
  by_cases c12 : t371 = true
  ·subst c12
   rw [if_pos rfl] at H
   obtain ⟨t372, A130, H⟩ := Option.bind_eq_some_iff.mp H
   try dsimp only at H
   have A13 := Aside0.mk A130; clear A130
   by_cases c14 : t372 = true
   ·subst c14
    rw [if_pos rfl] at H
    obtain ⟨t373, A150, H⟩ := Option.bind_eq_some_iff.mp H
    try dsimp only at H
    have A15 := Aside0.mk A150; clear A150
    have H' := Aside0.mk H
    clear H
    have := NB368_369.out
    have := NB369_368.out
    have := NB368_370.out
    have := NB370_368.out
    obtain ⟨hcz18_0, hcz18_1, hfz18_0, hfz18_1⟩ := cFour BK368
    go_wp2_with (first | (go_at_call 74; (with_reducible refine (impl_IsValidLin.calls k a0_0 _ _ l0_1 (l0_1.length : Int) true _ ?side1 ?side2 A11.out).mono ?_); (case side1 => exact mc ((Kd.C_below HR0_1.out HB.out))); (case side2 => exact HC0_1.out); rintro e w19 ⟨rfl, hb⟩; replace BK368 := bb BK368 hb; replace BK369 := bb BK369 hb; replace BK370 := bb BK370 hb; replace HB := bs HB hb; (try clear hb); have := NB369_370.out; have := NB370_369.out; obtain ⟨hcz21_0, hcz21_1, hfz21_0, hfz21_1⟩ := cFour BK369) | (go_at_call 74; (with_reducible refine (impl_IsValidLin.calls k a2_0 _ _ l2_1 (l0_1.length : Int) true _ ?side1 ?side2 A13.out).mono ?_); (case side1 => exact mc ((Kd.C_below HR2_1.out HB.out))); (case side2 => exact HC2_1.out); rintro e w22 ⟨rfl, hb⟩; replace BK368 := bb BK368 hb; replace BK369 := bb BK369 hb; replace BK370 := bb BK370 hb; replace HB := bs HB hb; (try clear hb)) | (go_at_call 122; (with_reducible refine (impl_coeffOk.calls a1 t373 _ A15.out).mono ?_); rintro e w' ⟨rfl, ⟨nd, rfl⟩⟩; (try first | exact ⟨rfl, _, World.drewN_drewN _ _ _⟩ | exact ⟨rfl, _, Eq.trans (World.drewN_drewN _ _ _) (congrArg (World.drewN _) (Nat.add_assoc _ _ _))⟩)))
    repeat (go_quiet (fail); try go_wp2_with (fail))
    go_meet
    case rel => exact ⟨_, (!t373), (by first | rfl | (simp; done) | (simp [*]; done)), H', ⟨by first | omega | exact Nat.le_refl _⟩, ⟨mb BK368⟩, ⟨mb BK369⟩, ⟨mb BK370⟩, ⟨ms HB⟩⟩
   replace c14 := Bool.eq_false_iff.mpr c14
   subst c14
   rw [if_neg (show ¬ (false = true) by decide)] at H
   have H' := Aside0.mk H
   clear H
   have := NB368_369.out
   have := NB369_368.out
   have := NB368_370.out
   have := NB370_368.out
   obtain ⟨hcz25_0, hcz25_1, hfz25_0, hfz25_1⟩ := cFour BK368
   go_wp2_with (first | (go_at_call 74; (with_reducible refine (impl_IsValidLin.calls k a0_0 _ _ l0_1 (l0_1.length : Int) true _ ?side1 ?side2 A11.out).mono ?_); (case side1 => exact mc ((Kd.C_below HR0_1.out HB.out))); (case side2 => exact HC0_1.out); rintro e w26 ⟨rfl, hb⟩; replace BK368 := bb BK368 hb; replace BK369 := bb BK369 hb; replace BK370 := bb BK370 hb; replace HB := bs HB hb; (try clear hb); have := NB369_370.out; have := NB370_369.out; obtain ⟨hcz28_0, hcz28_1, hfz28_0, hfz28_1⟩ := cFour BK369) | (go_at_call 74; (with_reducible refine (impl_IsValidLin.calls k a2_0 _ _ l2_1 (l0_1.length : Int) false _ ?side1 ?side2 A13.out).mono ?_); (case side1 => exact mc ((Kd.C_below HR2_1.out HB.out))); (case side2 => exact HC2_1.out); rintro e w29 ⟨rfl, hb⟩; replace BK368 := bb BK368 hb; replace BK369 := bb BK369 hb; replace BK370 := bb BK370 hb; replace HB := bs HB hb; (try clear hb)))
   repeat (go_quiet (fail); try go_wp2_with (fail))
   go_meet
   case rel => exact ⟨_, (true), (by first | rfl | (simp; done) | (simp [*]; done)), H', ⟨by first | omega | exact Nat.le_refl _⟩, ⟨mb BK368⟩, ⟨mb BK369⟩, ⟨mb BK370⟩, ⟨ms HB⟩⟩
  replace c12 := Bool.eq_false_iff.mpr c12
  subst c12
  rw [if_neg (show ¬ (false = true) by decide)] at H
  have H' := Aside0.mk H
  clear H
  have := NB368_369.out
  have := NB369_368.out
  have := NB368_370.out
  have := NB370_368.out
  obtain ⟨hcz32_0, hcz32_1, hfz32_0, hfz32_1⟩ := cFour BK368
  go_wp2_with ((go_at_call 74; (with_reducible refine (impl_IsValidLin.calls k a0_0 _ _ l0_1 (l0_1.length : Int) false _ ?side1 ?side2 A11.out).mono ?_); (case side1 => exact mc ((Kd.C_below HR0_1.out HB.out))); (case side2 => exact HC0_1.out); rintro e w33 ⟨rfl, hb⟩; replace BK368 := bb BK368 hb; replace BK369 := bb BK369 hb; replace BK370 := bb BK370 hb; replace HB := bs HB hb; (try clear hb)))
  repeat (go_quiet (fail); try go_wp2_with (fail))
  go_meet
  case rel => exact ⟨_, (true), (by first | rfl | (simp; done) | (simp [*]; done)), H', ⟨by first | omega | exact Nat.le_refl _⟩, ⟨mb BK368⟩, ⟨mb BK369⟩, ⟨mb BK370⟩, ⟨ms HB⟩⟩
 case rest =>
  clear HC4
  try clear c1
  try clear c2
  try clear p2
  try clear c3
  try clear c7
  try clear c8
  try clear c9
  try clear c12
  try clear c14
  try clear c16
  try clear c17
  try clear c20
  try clear c23
  try clear c24
  try clear c27
  try clear c30
  try clear c31
  try clear hcz10_0
  try clear hcz10_1
  try clear hcz18_0
  try clear hcz18_1
  try clear hcz21_0
  try clear hcz21_1
  try clear hcz25_0
  try clear hcz25_1
  try clear hcz28_0
  try clear hcz28_1
  try clear hcz32_0
  try clear hcz32_1
  try clear hfz10_0
  try clear hfz10_1
  try clear hfz18_0
  try clear hfz18_1
  try clear hfz21_0
  try clear hfz21_1
  try clear hfz25_0
  try clear hfz25_1
  try clear hfz28_0
  try clear hfz28_1
  try clear hfz32_0
  try clear hfz32_1
  obtain ⟨kq, x32_3, rfl, HA, HJ3, BK368, BK369, BK370, HB⟩ := hcut
  cases kq with
  | zero => exact absurd HA.out (by simp [impl_AddScaled.j0])
  | succ kj3 =>
   have H := HA.out
   clear HA
   simp only [impl_AddScaled.j0] at H
   by_cases c34 : x32_3 = true
   ·subst c34
    rw [if_pos rfl] at H
    simp only [Option.some.injEq, Prod.mk.injEq] at H
    obtain ⟨rfl, rfl, rfl⟩ := H
    have := NB370_368.out
    have := NB368_370.out
    have := NB370_369.out
    have := NB369_370.out
    obtain ⟨hcz37_0, hcz37_1, hfz37_0, hfz37_1⟩ := cFour BK370
    go_wp2
    repeat (go_quiet (fail); try go_wp2)
    refine bodyPost_ret (results_ct rfl _ _ gb370 29 #[.int .i64 0, .slice none 0 0] (0, 0) _ rfl (mq BK370) Try.underlying29 rfl (by kernel_rfl)) rfl ?_
    exact ⟨_, by first | rfl | (simp [errW_none, errW_some] <;> rfl) | (simp [*, errW_none, errW_some] <;> rfl), by first | exact Kd.R_nil _ _ _ _ _ | exact Kd.N_nil _ _ _ _ _ | exact Kd.V_nil _ _ _ _ _ | exact Kd.Q_nil _ _ _ _ _ | exact Kd.S_nil _ _ _ _ _, ms HB⟩
   replace c34 := Bool.eq_false_iff.mpr c34
   subst c34
   rw [if_neg (show ¬ (false = true) by decide)] at H
   obtain ⟨⟨t374, t375⟩, A380, H⟩ := Option.bind_eq_some_iff.mp H
   try dsimp only at H
   have A38 := Aside0.mk A380; clear A380
   obtain ⟨⟨t379, t380⟩, A390, H⟩ := Option.bind_eq_some_iff.mp H
   try dsimp only at H
   have A39 := Aside0.mk A390; clear A390
   have H' := Aside0.mk H
   clear H
   go_wp2_with (first | (go_at_call 76; (with_reducible refine (impl_ConstLin.calls 0 (l0_1.length : Int) t374 t375 _ A38.out).mono ?_); rintro e w40 ⟨v376, rfl, ho0, hb⟩; have HO377 := Aside0.mk (Kd.R_lower ho0 (below_size (ms HB))); replace BK368 := bb BK368 hb; replace BK369 := bb BK369 hb; replace BK370 := bb BK370 hb; replace HB := bs HB hb; (try clear hb); (try clear ho0)) | ((with_reducible refine gate_dst (N := 9) rfl ?_); refine box_event ?hg (N := 9) ?hd (cs := #[.int .i64 0, .slice none 0 0]) (t := 29) ?hr ?_; (case hd => rfl); (case hg => rfl); (case hr => first | (go_simp; done) | (go_simp; rfl)); intro gb378 hg w41 hbox hb; replace HO377 := rb HO377 hb; have BK378 := Aside0.mk (hbox); have GW378 := gw hg HB; have GE378 := gw hg HB; replace HB := bs HB hb; have NB368_378 := nl hg BK368; have NB378_368 := ng hg BK368; replace BK368 := bb BK368 hb; have NB369_378 := nl hg BK369; have NB378_369 := ng hg BK369; replace BK369 := bb BK369 hb; have NB370_378 := nl hg BK370; have NB378_370 := ng hg BK370; replace BK370 := bb BK370 hb; clear hb hbox hg; have := NB378_368.out; have := NB368_378.out; have := NB378_369.out; have := NB369_378.out; have := NB378_370.out; have := NB370_378.out; obtain ⟨hcz45_0, hcz45_1, hfz45_0, hfz45_1⟩ := cFour BK378; obtain ⟨Ao46, co46, eo46⟩ := Kd.R_slice HO377.out; subst eo46; have := NB368_369.out; have := NB369_368.out; have := NB368_370.out; have := NB370_368.out; obtain ⟨hcz49_0, hcz49_1, hfz49_0, hfz49_1⟩ := cFour BK368; have := NB369_370.out; have := NB370_369.out; obtain ⟨hcz51_0, hcz51_1, hfz51_0, hfz51_1⟩ := cFour BK369) | (go_at_call 124; (with_reducible refine (impl_scaled.calls a0_0 a1 a2_0 t379 t380 _ A39.out).mono ?_); rintro e w' ⟨rfl, ⟨nd, rfl⟩⟩; (try first | exact ⟨rfl, _, World.drewN_drewN _ _ _⟩ | exact ⟨rfl, _, Eq.trans (World.drewN_drewN _ _ _) (congrArg (World.drewN _) (Nat.add_assoc _ _ _))⟩)))
   repeat (go_quiet (fail); try go_wp2_with (fail))
   go_loopg [11, 50] kj3 (fun kq v11 v50 w' => ∃ (x11_2 : Bool) (x50_2 : Int) (x379001_2 : List Int) (u379001 : Value), v11 = .bool x11_2 ∧ v50 = .int .i64 x50_2 ∧ Aside0 (impl_AddScaled.l0 kq a1 x11_2 (l0_1.length : Int) x50_2 a0_0 l0_1 a2_0 l2_1 t379 x379001_2 = some (r1, r2, r3)) ∧ Aside0 (kq ≤ kj3) ∧ Aside0 (Kd.R (Kd.int .i64) 3 w' w.heap.size (fun _ => True) u379001 x379001_2) ∧ Aside0 (w'.heap[gb368]? = some (.cells #[.int .i64 a0_0, (.slice A0_1 l0_1.length c0_1)] 29 (0, 0))) ∧ Aside0 (w'.heap[gb369]? = some (.cells #[.int .i64 a2_0, (.slice A2_1 l2_1.length c2_1)] 29 (0, 0))) ∧ Aside0 (w'.heap[gb370]? = some (.cells #[.int .i64 0, (.slice none 0 0)] 29 (0, 0))) ∧ Aside0 (w'.heap[gb378]? = some (.cells #[.int .i64 t379, u379001] 29 (0, 0))) ∧ Aside0 (Below w.heap.size w w'))
   case atStart => exact ⟨(t380), (0), (t375), (.slice Ao46 t375.length co46), (by first | rfl | (simp; done) | (simp [*]; done)), (by first | rfl | (simp; done) | (simp [*]; done)), H', ⟨Nat.le_refl _⟩, ⟨by (with_reducible repeat (first | apply Kd.R_alloc | apply Kd.R_drewN | apply Kd.R_drew)); exact Kd.R_mono (Kd.R_far (p := ⟨gb378, 0, none⟩) (Kd.R_far (p := ⟨gb378, 1, none⟩) (Kd.R_far (p := ⟨gb378, 0, none⟩) (Kd.R_types HO377.out BK378.out (by decide)) (fun _ hk => hk.2) (.int .i64 t374)) (fun _ hk => hk.2) (.slice Ao46 t375.length co46)) (fun _ hk => hk.2) (.int .i64 t379)) (fun _ hk => trivial)⟩, ⟨mf BK368⟩, ⟨mf BK369⟩, ⟨mf BK370⟩, ⟨by (with_reducible repeat (first | refine blk_drewN ?_ _ | refine blk_drew ?_ | refine blk_alloc ?_ _)); refine blk_put (cs := #[.int .i64 t374, .slice Ao46 t375.length co46]) ?_ 0 _ rfl; (with_reducible repeat (first | refine blk_drewN ?_ _ | refine blk_drew ?_ | refine blk_alloc ?_ _)); refine blk_put (cs := #[.int .i64 t374, .slice none 0 0]) ?_ 1 _ rfl; (with_reducible repeat (first | refine blk_drewN ?_ _ | refine blk_drew ?_ | refine blk_alloc ?_ _)); refine blk_put (cs := #[.int .i64 0, .slice none 0 0]) ?_ 0 _ rfl; (with_reducible repeat (first | refine blk_drewN ?_ _ | refine blk_drew ?_ | refine blk_alloc ?_ _)); exact BK378.out⟩, ⟨ms HB⟩⟩
   case round =>
    clear H'
    try clear c1
    try clear c2
    try clear p2
    try clear c3
    try clear c4
    try clear c5
    try clear c7
    try clear c8
    try clear c9
    try clear c12
    try clear c14
    try clear c16
    try clear c17
    try clear c20
    try clear c23
    try clear c24
    try clear c27
    try clear c30
    try clear c31
    try clear c34
    try clear c35
    try clear c36
    try clear c42
    try clear c43
    try clear c44
    try clear c47
    try clear c48
    try clear c50
    try clear hcz10_0
    try clear hcz10_1
    try clear hcz18_0
    try clear hcz18_1
    try clear hcz21_0
    try clear hcz21_1
    try clear hcz25_0
    try clear hcz25_1
    try clear hcz28_0
    try clear hcz28_1
    try clear hcz32_0
    try clear hcz32_1
    try clear hcz37_0
    try clear hcz37_1
    try clear hcz45_0
    try clear hcz45_1
    try clear hcz49_0
    try clear hcz49_1
    try clear hcz51_0
    try clear hcz51_1
    try clear hfz10_0
    try clear hfz10_1
    try clear hfz18_0
    try clear hfz18_1
    try clear hfz21_0
    try clear hfz21_1
    try clear hfz25_0
    try clear hfz25_1
    try clear hfz28_0
    try clear hfz28_1
    try clear hfz32_0
    try clear hfz32_1
    try clear hfz37_0
    try clear hfz37_1
    try clear hfz45_0
    try clear hfz45_1
    try clear hfz49_0
    try clear hfz49_1
    try clear hfz51_0
    try clear hfz51_1
    try clear p2
    obtain ⟨x11_2, x50_2, x379001_2, u379001, rfl, rfl, HA, HK2, HO_379001, BK368, BK369, BK370, BK378, HB⟩ := hrel
    cases gk with
    | zero => exact absurd HA.out (by simp [impl_AddScaled.l0])
    | succ k2 =>
     have H := HA.out
     clear HA
     simp only [impl_AddScaled.l0] at H
     by_cases c52 : x50_2 < (l0_1.length : Int)
     ·rw [if_pos c52] at H
      have c52b0 : decide (x50_2 < (l0_1.length : Int)) = true := decide_eq_true c52
      clear c52
      by_cases c53 : 0 ≤ x50_2
      ·rw [if_pos c53] at H
       have c53b0 : decide (0 ≤ x50_2) = true := decide_eq_true c53
       clear c53
       by_cases c54 : x50_2 < (l0_1.length : Int)
       ·rw [if_pos c54] at H
        have c54b0 : decide (x50_2 < (l0_1.length : Int)) = true := decide_eq_true c54
        clear c54
        by_cases c55 : x50_2 < (l2_1.length : Int)
        ·rw [if_pos c55] at H
         have c55b0 : decide (x50_2 < (l2_1.length : Int)) = true := decide_eq_true c55
         clear c55
         obtain ⟨⟨t383, t384⟩, A560, H⟩ := Option.bind_eq_some_iff.mp H
         try dsimp only at H
         have A56 := Aside0.mk A560; clear A560
         by_cases c57 : x50_2 < (x379001_2.length : Int)
         ·rw [if_pos c57] at H
          have c57b0 : decide (x50_2 < (x379001_2.length : Int)) = true := decide_eq_true c57
          clear c57
          obtain ⟨y385, hy385⟩ : ∃ y_ : List Int, y_ = (x379001_2.set (x50_2 : Int).toNat t383) := ⟨_, rfl⟩
          replace H : (if x11_2 = true then (impl_AddScaled.l0 k2 a1 t384 (l0_1.length : Int) (wrap64 (x50_2 + 1)) a0_0 l0_1 a2_0 l2_1 t379 y385) else (impl_AddScaled.l0 k2 a1 false (l0_1.length : Int) (wrap64 (x50_2 + 1)) a0_0 l0_1 a2_0 l2_1 t379 y385)) = some (r1, r2, r3) := by first | (rw [hy385]; with_reducible exact H) | (have H2_ := (Option.bind_some _ _).symm.trans H; rw [hy385]; with_reducible exact H2_) | (have H2_ := (Option.bind_some _ _).symm.trans H; with_reducible exact H2_) | with_reducible exact H | (rw [hy385]; exact H) | exact H
          have Ny385 := Aside0.mk hy385; clear hy385
          by_cases c59 : x11_2 = true
          ·subst c59
           rw [if_pos rfl] at H
           have H' := Aside0.mk H
           clear H
           have := NB368_369.out
           have := NB369_368.out
           have := NB368_370.out
           have := NB370_368.out
           have := NB368_378.out
           have := NB378_368.out
           obtain ⟨_, _, _, _⟩ := cFour BK368
           have p381 : 0 ≤ (x50_2 : Int) := of_decide_eq_true (by first | (with_reducible assumption) | assumption)
           have q381 : x50_2 < (l0_1.length : Int) := of_decide_eq_true (by first | (with_reducible assumption) | assumption)
           obtain ⟨ad381, e381, hx381_0⟩ := Kd.at_int HR0_1.out x50_2 p381 q381
           cases e381
           replace hx381_0 := (HB.out.cell (World.block_lt_of_cell? w _ hx381_0)).trans hx381_0
           replace p381 := eq_true p381
           replace q381 := eq_true q381
           have := NB369_370.out
           have := NB370_369.out
           have := NB369_378.out
           have := NB378_369.out
           obtain ⟨_, _, _, _⟩ := cFour BK369
           have p382 : 0 ≤ (x50_2 : Int) := of_decide_eq_true (by first | (with_reducible assumption) | assumption)
           have q382 : x50_2 < (l2_1.length : Int) := of_decide_eq_true (by first | (with_reducible assumption) | assumption)
           obtain ⟨ad382, e382, hx382_0⟩ := Kd.at_int HR2_1.out x50_2 p382 q382
           cases e382
           replace hx382_0 := (HB.out.cell (World.block_lt_of_cell? w _ hx382_0)).trans hx382_0
           replace p382 := eq_true p382
           replace q382 := eq_true q382
           go_wp2_with (fail)
           repeat (go_quiet ((go_at_call 124; (with_reducible refine (impl_scaled.calls (rd l0_1 x50_2) a1 (rd l2_1 x50_2) t383 t384 _ A56.out).mono ?_); rintro e w' ⟨rfl, ⟨nd, rfl⟩⟩; (try first | exact ⟨rfl, _, World.drewN_drewN _ _ _⟩ | exact ⟨rfl, _, Eq.trans (World.drewN_drewN _ _ _) (congrArg (World.drewN _) (Nat.add_assoc _ _ _))⟩); have := NB378_370.out; have := NB370_378.out; obtain ⟨_, _, _, _⟩ := cFour BK378; have p58 : 0 ≤ (x50_2 : Int) := of_decide_eq_true (by first | (with_reducible assumption) | assumption); have q58 : (x50_2 : Int) < ((x379001_2.length : Int) : Int) := of_decide_eq_true (by first | (with_reducible assumption) | assumption); obtain ⟨go58, co58, eo58, gb58, gl58, cl58, HG58⟩ := Kd.R_form HO_379001.out (by omega); (first | cases eo58 | (injection eo58 with ea_ en_ ec_; (first | subst ea_ | (injection ea_ with ea_; subst ea_)); subst ec_; clear en_)); have GB58 := Aside0.mk gb58; have GG58 := Aside0.mk HG58; clear gb58 gl58 HG58; obtain ⟨hx58_0, hf58_0⟩ := Kd.R_celln 0 HO_379001.out (x50_2 : Int) p58 q58; replace p58 := eq_true p58; replace q58 := eq_true q58; obtain ⟨hy69_, hz69_⟩ := Kd.R_celln 0 HO_379001.out (x50_2 : Int) (of_decide_eq_true (by first | (with_reducible assumption) | assumption)) (of_decide_eq_true (by first | (with_reducible assumption) | assumption)); have HP69 := Kd.R_putg HO_379001.out (x50_2 : Int) t383)); try go_wp2_with (((with_reducible refine gate_store (t := 3) (p := 72) rfl ?_); (try (rw [drewN_self wr]; generalize hq_ : World.drewN wr _ = wr; have n0_ := Aside0.mk (Kd.R_at hq_ HO_379001.out); have n1_ := Aside0.mk (blk_at hq_ BK368.out); have n2_ := Aside0.mk (blk_at hq_ BK369.out); have n3_ := Aside0.mk (blk_at hq_ BK370.out); have n4_ := Aside0.mk (blk_at hq_ BK378.out); have n5_ := Aside0.mk (below_at hq_ HB.out); clear hq_ HO_379001 BK368 BK369 BK370 BK378 HB; have HO_379001 := n0_; have BK368 := n1_; have BK369 := n2_; have BK370 := n3_; have BK378 := n4_; have HB := n5_; clear n0_ n1_ n2_ n3_ n4_ n5_; (try (obtain ⟨hy69_, hz69_⟩ := Kd.R_celln 0 HO_379001.out (x50_2 : Int) (of_decide_eq_true (by first | (with_reducible assumption) | assumption)) (of_decide_eq_true (by first | (with_reducible assumption) | assumption)))); (try (have HP69 := Kd.R_putg HO_379001.out (x50_2 : Int) t383)))); refine store_event (t := 3) (p := 72) (v := ?vo_w70) (w1 := (wr.setCell ⟨go58, (x50_2 : Int).toNat, none⟩ (.int .i64 t383))) ?hg ?ho ?hn ?hr ?_; (case ho => rfl); (case hg => rfl); (case hn => rfl); (case hr => first | (go_simp; done) | (go_simp; rfl)); intro w70 hw; have hg : wr.grownBy w70 (some go58) := (by rw [hw]; exact HP69.2); have hp_ : Kd.R (Kd.int .i64) 3 w70 w.heap.size (fun _ => True) (.slice (some ⟨go58, 0, none⟩) x379001_2.length co58) y385 := (by rw [hw, Ny385.out]; exact HP69.1); clear HP69; have n0_ := Aside0.mk (hp_); have n1_ := Aside0.mk (blk_grown (g := gb368) (o := .cells #[.int .i64 a0_0, .slice (some ad381) l0_1.length c0_1] 29 (0, 0)) (mb BK368) hg (Kd.R_ne HO_379001.out BK368.out (by decide))); have n2_ := Aside0.mk (blk_grown (g := gb369) (o := .cells #[.int .i64 a2_0, .slice (some ad382) l2_1.length c2_1] 29 (0, 0)) (mb BK369) hg (Kd.R_ne HO_379001.out BK369.out (by decide))); have n3_ := Aside0.mk (blk_grown (g := gb370) (o := .cells #[.int .i64 0, .slice none 0 0] 29 (0, 0)) (mb BK370) hg (Kd.R_ne HO_379001.out BK370.out (by decide))); have n4_ := Aside0.mk (blk_grown (g := gb378) (o := .cells #[.int .i64 t379, .slice (some ⟨go58, 0, none⟩) x379001_2.length co58] 29 (0, 0)) (mb BK378) hg (Kd.R_ne HO_379001.out BK378.out (by decide))); have n5_ := Aside0.mk ((by rw [hw]; exact below_set (HB.out) GB58.out : Below w.heap.size w w70)); clear HO_379001 BK368 BK369 BK370 BK378 HB; have HO_379001 := n0_; have BK368 := n1_; have BK369 := n2_; have BK370 := n3_; have BK378 := n4_; have HB := n5_; clear n0_ n1_ n2_ n3_ n4_ n5_; clear hg hw hp_)))
           go_roundg k2
           case measure => have := HJ3.out; have := HK2.out; omega
           case rel => exact ⟨(t384), (wrap64 (x50_2 + 1)), (y385), (.slice (some ⟨go58, 0, none⟩) x379001_2.length co58), (by first | rfl | (simp; done) | (simp [*]; done)), (by first | rfl | (simp; done) | (simp [*]; done)), H', ⟨by have := HJ3.out; have := HK2.out; omega⟩, ⟨by (with_reducible repeat (first | apply Kd.R_alloc | apply Kd.R_drewN | apply Kd.R_drew)); exact HO_379001.out⟩, ⟨mb BK368⟩, ⟨mb BK369⟩, ⟨mb BK370⟩, ⟨mb BK378⟩, ⟨ms HB⟩⟩
          replace c59 := Bool.eq_false_iff.mpr c59
          subst c59
          rw [if_neg (show ¬ (false = true) by decide)] at H
          have H' := Aside0.mk H
          clear H
          have := NB368_369.out
          have := NB369_368.out
          have := NB368_370.out
          have := NB370_368.out
          have := NB368_378.out
          have := NB378_368.out
          obtain ⟨_, _, _, _⟩ := cFour BK368
          have p381 : 0 ≤ (x50_2 : Int) := of_decide_eq_true (by first | (with_reducible assumption) | assumption)
          have q381 : x50_2 < (l0_1.length : Int) := of_decide_eq_true (by first | (with_reducible assumption) | assumption)
          obtain ⟨ad381, e381, hx381_0⟩ := Kd.at_int HR0_1.out x50_2 p381 q381
          cases e381
          replace hx381_0 := (HB.out.cell (World.block_lt_of_cell? w _ hx381_0)).trans hx381_0
          replace p381 := eq_true p381
          replace q381 := eq_true q381
          have := NB369_370.out
          have := NB370_369.out
          have := NB369_378.out
          have := NB378_369.out
          obtain ⟨_, _, _, _⟩ := cFour BK369
          have p382 : 0 ≤ (x50_2 : Int) := of_decide_eq_true (by first | (with_reducible assumption) | assumption)
          have q382 : x50_2 < (l2_1.length : Int) := of_decide_eq_true (by first | (with_reducible assumption) | assumption)
          obtain ⟨ad382, e382, hx382_0⟩ := Kd.at_int HR2_1.out x50_2 p382 q382
          cases e382
          replace hx382_0 := (HB.out.cell (World.block_lt_of_cell? w _ hx382_0)).trans hx382_0
          replace p382 := eq_true p382
          replace q382 := eq_true q382
          go_wp2_with (fail)
          repeat (go_quiet ((go_at_call 124; (with_reducible refine (impl_scaled.calls (rd l0_1 x50_2) a1 (rd l2_1 x50_2) t383 t384 _ A56.out).mono ?_); rintro e w' ⟨rfl, ⟨nd, rfl⟩⟩; (try first | exact ⟨rfl, _, World.drewN_drewN _ _ _⟩ | exact ⟨rfl, _, Eq.trans (World.drewN_drewN _ _ _) (congrArg (World.drewN _) (Nat.add_assoc _ _ _))⟩); have := NB378_370.out; have := NB370_378.out; obtain ⟨_, _, _, _⟩ := cFour BK378; have p58 : 0 ≤ (x50_2 : Int) := of_decide_eq_true (by first | (with_reducible assumption) | assumption); have q58 : (x50_2 : Int) < ((x379001_2.length : Int) : Int) := of_decide_eq_true (by first | (with_reducible assumption) | assumption); obtain ⟨go58, co58, eo58, gb58, gl58, cl58, HG58⟩ := Kd.R_form HO_379001.out (by omega); (first | cases eo58 | (injection eo58 with ea_ en_ ec_; (first | subst ea_ | (injection ea_ with ea_; subst ea_)); subst ec_; clear en_)); have GB58 := Aside0.mk gb58; have GG58 := Aside0.mk HG58; clear gb58 gl58 HG58; obtain ⟨hx58_0, hf58_0⟩ := Kd.R_celln 0 HO_379001.out (x50_2 : Int) p58 q58; replace p58 := eq_true p58; replace q58 := eq_true q58; obtain ⟨hy80_, hz80_⟩ := Kd.R_celln 0 HO_379001.out (x50_2 : Int) (of_decide_eq_true (by first | (with_reducible assumption) | assumption)) (of_decide_eq_true (by first | (with_reducible assumption) | assumption)); have HP80 := Kd.R_putg HO_379001.out (x50_2 : Int) t383)); try go_wp2_with (((with_reducible refine gate_store (t := 3) (p := 72) rfl ?_); (try (rw [drewN_self wr]; generalize hq_ : World.drewN wr _ = wr; have n0_ := Aside0.mk (Kd.R_at hq_ HO_379001.out); have n1_ := Aside0.mk (blk_at hq_ BK368.out); have n2_ := Aside0.mk (blk_at hq_ BK369.out); have n3_ := Aside0.mk (blk_at hq_ BK370.out); have n4_ := Aside0.mk (blk_at hq_ BK378.out); have n5_ := Aside0.mk (below_at hq_ HB.out); clear hq_ HO_379001 BK368 BK369 BK370 BK378 HB; have HO_379001 := n0_; have BK368 := n1_; have BK369 := n2_; have BK370 := n3_; have BK378 := n4_; have HB := n5_; clear n0_ n1_ n2_ n3_ n4_ n5_; (try (obtain ⟨hy80_, hz80_⟩ := Kd.R_celln 0 HO_379001.out (x50_2 : Int) (of_decide_eq_true (by first | (with_reducible assumption) | assumption)) (of_decide_eq_true (by first | (with_reducible assumption) | assumption)))); (try (have HP80 := Kd.R_putg HO_379001.out (x50_2 : Int) t383)))); refine store_event (t := 3) (p := 72) (v := ?vo_w81) (w1 := (wr.setCell ⟨go58, (x50_2 : Int).toNat, none⟩ (.int .i64 t383))) ?hg ?ho ?hn ?hr ?_; (case ho => rfl); (case hg => rfl); (case hn => rfl); (case hr => first | (go_simp; done) | (go_simp; rfl)); intro w81 hw; have hg : wr.grownBy w81 (some go58) := (by rw [hw]; exact HP80.2); have hp_ : Kd.R (Kd.int .i64) 3 w81 w.heap.size (fun _ => True) (.slice (some ⟨go58, 0, none⟩) x379001_2.length co58) y385 := (by rw [hw, Ny385.out]; exact HP80.1); clear HP80; have n0_ := Aside0.mk (hp_); have n1_ := Aside0.mk (blk_grown (g := gb368) (o := .cells #[.int .i64 a0_0, .slice (some ad381) l0_1.length c0_1] 29 (0, 0)) (mb BK368) hg (Kd.R_ne HO_379001.out BK368.out (by decide))); have n2_ := Aside0.mk (blk_grown (g := gb369) (o := .cells #[.int .i64 a2_0, .slice (some ad382) l2_1.length c2_1] 29 (0, 0)) (mb BK369) hg (Kd.R_ne HO_379001.out BK369.out (by decide))); have n3_ := Aside0.mk (blk_grown (g := gb370) (o := .cells #[.int .i64 0, .slice none 0 0] 29 (0, 0)) (mb BK370) hg (Kd.R_ne HO_379001.out BK370.out (by decide))); have n4_ := Aside0.mk (blk_grown (g := gb378) (o := .cells #[.int .i64 t379, .slice (some ⟨go58, 0, none⟩) x379001_2.length co58] 29 (0, 0)) (mb BK378) hg (Kd.R_ne HO_379001.out BK378.out (by decide))); have n5_ := Aside0.mk ((by rw [hw]; exact below_set (HB.out) GB58.out : Below w.heap.size w w81)); clear HO_379001 BK368 BK369 BK370 BK378 HB; have HO_379001 := n0_; have BK368 := n1_; have BK369 := n2_; have BK370 := n3_; have BK378 := n4_; have HB := n5_; clear n0_ n1_ n2_ n3_ n4_ n5_; clear hg hw hp_)))
          go_roundg k2
          case measure => have := HJ3.out; have := HK2.out; omega
          case rel => exact ⟨(false), (wrap64 (x50_2 + 1)), (y385), (.slice (some ⟨go58, 0, none⟩) x379001_2.length co58), (by first | rfl | (simp; done) | (simp [*]; done)), (by first | rfl | (simp; done) | (simp [*]; done)), H', ⟨by have := HJ3.out; have := HK2.out; omega⟩, ⟨by (with_reducible repeat (first | apply Kd.R_alloc | apply Kd.R_drewN | apply Kd.R_drew)); exact HO_379001.out⟩, ⟨mb BK368⟩, ⟨mb BK369⟩, ⟨mb BK370⟩, ⟨mb BK378⟩, ⟨ms HB⟩⟩
         rw [if_neg c57] at H
         exact absurd H (by simp)
        rw [if_neg c55] at H
        exact absurd H (by simp)
       rw [if_neg c54] at H
       exact absurd H (by simp)
      rw [if_neg c53] at H
      exact absurd H (by simp)
     rw [if_neg c52] at H
     have c52b0 : decide (x50_2 < (l0_1.length : Int)) = false := decide_eq_false c52
     clear c52
     by_cases c82 : x11_2 = true
     ·subst c82
      rw [if_pos rfl] at H
      simp only [Option.some.injEq, Prod.mk.injEq] at H
      obtain ⟨rfl, rfl, rfl⟩ := H
      have := NB378_368.out
      have := NB368_378.out
      have := NB378_369.out
      have := NB369_378.out
      have := NB378_370.out
      have := NB370_378.out
      obtain ⟨_, _, _, _⟩ := cFour BK378
      have := NB370_368.out
      have := NB368_370.out
      have := NB370_369.out
      have := NB369_370.out
      obtain ⟨_, _, _, _⟩ := cFour BK370
      obtain ⟨Ao90, co90, eo90⟩ := Kd.R_slice HO_379001.out
      subst eo90
      go_wp2
      repeat (go_quiet (fail); try go_wp2)
      refine bodyPost_ret (results_ct rfl _ _ gb370 29 #[.int .i64 t379, .slice Ao90 x379001_2.length co90] (0, 0) _ rfl (mq BK370) Try.underlying29 rfl (by kernel_rfl)) rfl ?_
      exact ⟨_, by first | rfl | (simp [errW_none, errW_some] <;> rfl) | (simp [*, errW_none, errW_some] <;> rfl), by (with_reducible repeat (first | apply Kd.R_alloc | apply Kd.R_drewN | apply Kd.R_drew)); exact Kd.R_mono (Kd.R_far (p := ⟨gb370, 1, none⟩) (Kd.R_far (p := ⟨gb370, 0, none⟩) (Kd.R_types HO_379001.out BK370.out (by decide)) (fun _ hk => hk.2) (.int .i64 t379)) (fun _ hk => hk.2) (.slice Ao90 x379001_2.length co90)) (fun _ hk => trivial), ms HB⟩
     replace c82 := Bool.eq_false_iff.mpr c82
     subst c82
     rw [if_neg (show ¬ (false = true) by decide)] at H
     simp only [Option.some.injEq, Prod.mk.injEq] at H
     obtain ⟨rfl, rfl, rfl⟩ := H
     have := NB370_368.out
     have := NB368_370.out
     have := NB370_369.out
     have := NB369_370.out
     have := NB370_378.out
     have := NB378_370.out
     obtain ⟨_, _, _, _⟩ := cFour BK370
     go_wp2
     repeat (go_quiet (fail); try go_wp2)
     refine bodyPost_ret (results_ct rfl _ _ gb370 29 #[.int .i64 0, .slice none 0 0] (0, 0) _ rfl (mq BK370) Try.underlying29 rfl (by kernel_rfl)) rfl ?_
     exact ⟨_, by first | rfl | (simp [errW_none, errW_some] <;> rfl) | (simp [*, errW_none, errW_some] <;> rfl), by first | exact Kd.R_nil _ _ _ _ _ | exact Kd.N_nil _ _ _ _ _ | exact Kd.V_nil _ _ _ _ _ | exact Kd.Q_nil _ _ _ _ _ | exact Kd.S_nil _ _ _ _ _, ms HB⟩

end Go.Proofs.Ytlencemmlgkflaa.QFnFound
