-- Made by a program of this claim's own (wip/print): not the kit's print as it stands.
import Derived.Test.YtghiljjkaiggfaaUFnCombinedTri
import Derived.Test.YtghiljjkaiggfaaQFnCombinedx0
import Derived.Test.YtghiljjkaiggfaaQFnCombinedx4
namespace Go.Proofs.Ytghiljjkaiggfaa.QFnCombined
open Go.RowKit Go.Proofs.YtghiljjkaiggfaaV.PrintWords Go.Proofs.YtghiljjkaiggfaaV.PrintLast Go.Proofs.YtghiljjkaiggfaaV.PrintMore
attribute [local go_sem] max2_int min2_int max_two min_two max_three min_three max_four min_four   -- for this text's walks alone
set_option linter.unusedVariables false
set_option linter.unusedSimpArgs false

/-! ### impl_AddLimited: function 118 -/
def impl_AddLimited.f (a0 : Int) (a1 : Int) : Option (Int × Bool) := (impl_coeffOk.f a0).bind fun t191 => (if t191 = true then ((impl_coeffOk.f a1).bind fun t192 => (if t192 = true then ((impl_coeffOk.f (wrap64 (a0 + a1))).bind fun t193 => (if t193 = true then (some (wrap64 (a0 + a1), true)) else (some (0, false)))) else (some (0, false)))) else (some (0, false)))
set_option maxHeartbeats 8000000 in
set_option maxRecDepth 100000 in
theorem impl_AddLimited.calls (a0 : Int) (a1 : Int) (r1 : Int) (r2 : Bool) (w : World) (h : impl_AddLimited.f a0 a1 = some (r1, r2)) :
  Calls Try.prog 118 #[.int .i64 a0, .int .i64 a1] w fun e w' => e = .returned (.tuple #[.int .i64 r1, .bool r2]) ∧ Drawn0 w w' := by
 have H : ((impl_coeffOk.f a0).bind fun t191 => (if t191 = true then ((impl_coeffOk.f a1).bind fun t192 => (if t192 = true then ((impl_coeffOk.f (wrap64 (a0 + a1))).bind fun t193 => (if t193 = true then (some (wrap64 (a0 + a1), true)) else (some (0, false)))) else (some (0, false)))) else (some (0, false)))) = some (r1, r2) := h
 clear h
 replace H := Option.bind_eq_some_iff.mp H
 obtain ⟨t191, A30, H⟩ := H
 replace H : (if t191 = true then ((impl_coeffOk.f a1).bind fun t192 => (if t192 = true then ((impl_coeffOk.f (wrap64 (a0 + a1))).bind fun t193 => (if t193 = true then (some (wrap64 (a0 + a1), true)) else (some (0, false)))) else (some (0, false)))) else (some (0, false))) = some (r1, r2) := H
 have A3 := Aside0.mk A30
 clear A30
 by_cases c4 : t191 = true
 ·subst c4
  have H1 : ((impl_coeffOk.f a1).bind fun t192 => (if t192 = true then ((impl_coeffOk.f (wrap64 (a0 + a1))).bind fun t193 => (if t193 = true then (some (wrap64 (a0 + a1), true)) else (some (0, false)))) else (some (0, false)))) = some (r1, r2) := by rw [if_pos rfl] at H; exact H
  clear H
  have H := H1
  clear H1
  replace H := Option.bind_eq_some_iff.mp H
  obtain ⟨t192, A50, H⟩ := H
  replace H : (if t192 = true then ((impl_coeffOk.f (wrap64 (a0 + a1))).bind fun t193 => (if t193 = true then (some (wrap64 (a0 + a1), true)) else (some (0, false)))) else (some (0, false))) = some (r1, r2) := H
  have A5 := Aside0.mk A50
  clear A50
  by_cases c6 : t192 = true
  ·subst c6
   have H1 : ((impl_coeffOk.f (wrap64 (a0 + a1))).bind fun t193 => (if t193 = true then (some (wrap64 (a0 + a1), true)) else (some (0, false)))) = some (r1, r2) := by rw [if_pos rfl] at H; exact H
   clear H
   have H := H1
   clear H1
   replace H := Option.bind_eq_some_iff.mp H
   obtain ⟨t193, A70, H⟩ := H
   replace H : (if t193 = true then (some (wrap64 (a0 + a1), true)) else (some (0, false))) = some (r1, r2) := H
   have A7 := Aside0.mk A70
   clear A70
   by_cases c8 : t193 = true
   ·subst c8
    have H1 : (some (wrap64 (a0 + a1), true)) = some (r1, r2) := by rw [if_pos rfl] at H; exact H
    clear H
    have H := H1
    clear H1
    simp only [Option.some.injEq, Prod.mk.injEq] at H
    obtain ⟨rfl, rfl⟩ := H
    go_enter Try.func118, Try.ntmps118
    go_wp2_with (first | ((with_reducible refine gate_callee (f := 107) rfl ?_); refine gl (some 7) rfl rfl Try.func107 (by kernel_rfl) rfl #[.int .i64 a0] rfl ?_; (with_reducible refine (impl_coeffOk.calls a0 true _ A3.out).mono ?_); rintro e w' ⟨rfl, ⟨nd, rfl⟩⟩; refine ⟨_, rfl, ?_⟩) | (go_at_call 107; (with_reducible refine (impl_coeffOk.calls a1 true _ A5.out).mono ?_); rintro e w' ⟨rfl, ⟨nd, rfl⟩⟩) | (go_at_call 107; (with_reducible refine (impl_coeffOk.calls (wrap64 (a0 + a1)) true _ A7.out).mono ?_); rintro e w' ⟨rfl, ⟨nd, rfl⟩⟩))
    go_ret2
    exact ⟨by first | rfl | (simp; done) | (simp [*]; done), by repeat (first | exact Drawn0.refl _ | apply Drawn0.step)⟩
   ·replace c8 := Bool.eq_false_iff.mpr c8
    subst c8
    have H1 : (some (0, false)) = some (r1, r2) := by rw [if_neg (show ¬ (false = true) by decide)] at H; exact H
    clear H
    have H := H1
    clear H1
    simp only [Option.some.injEq, Prod.mk.injEq] at H
    obtain ⟨rfl, rfl⟩ := H
    go_enter Try.func118, Try.ntmps118
    go_wp2_with (first | ((with_reducible refine gate_callee (f := 107) rfl ?_); refine gl (some 7) rfl rfl Try.func107 (by kernel_rfl) rfl #[.int .i64 a0] rfl ?_; (with_reducible refine (impl_coeffOk.calls a0 true _ A3.out).mono ?_); rintro e w' ⟨rfl, ⟨nd, rfl⟩⟩; refine ⟨_, rfl, ?_⟩) | (go_at_call 107; (with_reducible refine (impl_coeffOk.calls a1 true _ A5.out).mono ?_); rintro e w' ⟨rfl, ⟨nd, rfl⟩⟩) | (go_at_call 107; (with_reducible refine (impl_coeffOk.calls (wrap64 (a0 + a1)) false _ A7.out).mono ?_); rintro e w' ⟨rfl, ⟨nd, rfl⟩⟩))
    go_ret2
    exact ⟨by first | rfl | (simp; done) | (simp [*]; done), by repeat (first | exact Drawn0.refl _ | apply Drawn0.step)⟩
  ·replace c6 := Bool.eq_false_iff.mpr c6
   subst c6
   have H1 : (some (0, false)) = some (r1, r2) := by rw [if_neg (show ¬ (false = true) by decide)] at H; exact H
   clear H
   have H := H1
   clear H1
   simp only [Option.some.injEq, Prod.mk.injEq] at H
   obtain ⟨rfl, rfl⟩ := H
   go_enter Try.func118, Try.ntmps118
   go_wp2_with (first | ((with_reducible refine gate_callee (f := 107) rfl ?_); refine gl (some 7) rfl rfl Try.func107 (by kernel_rfl) rfl #[.int .i64 a0] rfl ?_; (with_reducible refine (impl_coeffOk.calls a0 true _ A3.out).mono ?_); rintro e w' ⟨rfl, ⟨nd, rfl⟩⟩; refine ⟨_, rfl, ?_⟩) | (go_at_call 107; (with_reducible refine (impl_coeffOk.calls a1 false _ A5.out).mono ?_); rintro e w' ⟨rfl, ⟨nd, rfl⟩⟩))
   go_ret2
   exact ⟨by first | rfl | (simp; done) | (simp [*]; done), by repeat (first | exact Drawn0.refl _ | apply Drawn0.step)⟩
 ·replace c4 := Bool.eq_false_iff.mpr c4
  subst c4
  have H1 : (some (0, false)) = some (r1, r2) := by rw [if_neg (show ¬ (false = true) by decide)] at H; exact H
  clear H
  have H := H1
  clear H1
  simp only [Option.some.injEq, Prod.mk.injEq] at H
  obtain ⟨rfl, rfl⟩ := H
  go_enter Try.func118, Try.ntmps118
  go_wp2_with (first | ((with_reducible refine gate_callee (f := 107) rfl ?_); refine gl (some 7) rfl rfl Try.func107 (by kernel_rfl) rfl #[.int .i64 a0] rfl ?_; (with_reducible refine (impl_coeffOk.calls a0 false _ A3.out).mono ?_); rintro e w' ⟨rfl, ⟨nd, rfl⟩⟩; refine ⟨_, rfl, ?_⟩))
  go_ret2
  exact ⟨by first | rfl | (simp; done) | (simp [*]; done), by repeat (first | exact Drawn0.refl _ | apply Drawn0.step)⟩

/-! ### impl_MulLimited: function 125 -/
def impl_MulLimited.f (a0 : Int) (a1 : Int) : Option (Int × Bool) := (impl_coeffOk.f a0).bind fun t194 => (if t194 = true then ((impl_coeffOk.f a1).bind fun t195 => (if t195 = true then ((impl_coeffOk.f (wrap64 (a0 * a1))).bind fun t196 => (if t196 = true then (some (wrap64 (a0 * a1), true)) else (some (0, false)))) else (some (0, false)))) else (some (0, false)))
set_option maxHeartbeats 8000000 in
set_option maxRecDepth 100000 in
theorem impl_MulLimited.calls (a0 : Int) (a1 : Int) (r1 : Int) (r2 : Bool) (w : World) (h : impl_MulLimited.f a0 a1 = some (r1, r2)) :
  Calls Try.prog 125 #[.int .i64 a0, .int .i64 a1] w fun e w' => e = .returned (.tuple #[.int .i64 r1, .bool r2]) ∧ Drawn0 w w' := by
 have H : ((impl_coeffOk.f a0).bind fun t194 => (if t194 = true then ((impl_coeffOk.f a1).bind fun t195 => (if t195 = true then ((impl_coeffOk.f (wrap64 (a0 * a1))).bind fun t196 => (if t196 = true then (some (wrap64 (a0 * a1), true)) else (some (0, false)))) else (some (0, false)))) else (some (0, false)))) = some (r1, r2) := h
 clear h
 replace H := Option.bind_eq_some_iff.mp H
 obtain ⟨t194, A30, H⟩ := H
 replace H : (if t194 = true then ((impl_coeffOk.f a1).bind fun t195 => (if t195 = true then ((impl_coeffOk.f (wrap64 (a0 * a1))).bind fun t196 => (if t196 = true then (some (wrap64 (a0 * a1), true)) else (some (0, false)))) else (some (0, false)))) else (some (0, false))) = some (r1, r2) := H
 have A3 := Aside0.mk A30
 clear A30
 by_cases c4 : t194 = true
 ·subst c4
  have H1 : ((impl_coeffOk.f a1).bind fun t195 => (if t195 = true then ((impl_coeffOk.f (wrap64 (a0 * a1))).bind fun t196 => (if t196 = true then (some (wrap64 (a0 * a1), true)) else (some (0, false)))) else (some (0, false)))) = some (r1, r2) := by rw [if_pos rfl] at H; exact H
  clear H
  have H := H1
  clear H1
  replace H := Option.bind_eq_some_iff.mp H
  obtain ⟨t195, A50, H⟩ := H
  replace H : (if t195 = true then ((impl_coeffOk.f (wrap64 (a0 * a1))).bind fun t196 => (if t196 = true then (some (wrap64 (a0 * a1), true)) else (some (0, false)))) else (some (0, false))) = some (r1, r2) := H
  have A5 := Aside0.mk A50
  clear A50
  by_cases c6 : t195 = true
  ·subst c6
   have H1 : ((impl_coeffOk.f (wrap64 (a0 * a1))).bind fun t196 => (if t196 = true then (some (wrap64 (a0 * a1), true)) else (some (0, false)))) = some (r1, r2) := by rw [if_pos rfl] at H; exact H
   clear H
   have H := H1
   clear H1
   replace H := Option.bind_eq_some_iff.mp H
   obtain ⟨t196, A70, H⟩ := H
   replace H : (if t196 = true then (some (wrap64 (a0 * a1), true)) else (some (0, false))) = some (r1, r2) := H
   have A7 := Aside0.mk A70
   clear A70
   by_cases c8 : t196 = true
   ·subst c8
    have H1 : (some (wrap64 (a0 * a1), true)) = some (r1, r2) := by rw [if_pos rfl] at H; exact H
    clear H
    have H := H1
    clear H1
    simp only [Option.some.injEq, Prod.mk.injEq] at H
    obtain ⟨rfl, rfl⟩ := H
    go_enter Try.func125, Try.ntmps125
    go_wp2_with (first | ((with_reducible refine gate_callee (f := 107) rfl ?_); refine gl (some 7) rfl rfl Try.func107 (by kernel_rfl) rfl #[.int .i64 a0] rfl ?_; (with_reducible refine (impl_coeffOk.calls a0 true _ A3.out).mono ?_); rintro e w' ⟨rfl, ⟨nd, rfl⟩⟩; refine ⟨_, rfl, ?_⟩) | (go_at_call 107; (with_reducible refine (impl_coeffOk.calls a1 true _ A5.out).mono ?_); rintro e w' ⟨rfl, ⟨nd, rfl⟩⟩) | (go_at_call 107; (with_reducible refine (impl_coeffOk.calls (wrap64 (a0 * a1)) true _ A7.out).mono ?_); rintro e w' ⟨rfl, ⟨nd, rfl⟩⟩))
    go_ret2
    exact ⟨by first | rfl | (simp; done) | (simp [*]; done), by repeat (first | exact Drawn0.refl _ | apply Drawn0.step)⟩
   ·replace c8 := Bool.eq_false_iff.mpr c8
    subst c8
    have H1 : (some (0, false)) = some (r1, r2) := by rw [if_neg (show ¬ (false = true) by decide)] at H; exact H
    clear H
    have H := H1
    clear H1
    simp only [Option.some.injEq, Prod.mk.injEq] at H
    obtain ⟨rfl, rfl⟩ := H
    go_enter Try.func125, Try.ntmps125
    go_wp2_with (first | ((with_reducible refine gate_callee (f := 107) rfl ?_); refine gl (some 7) rfl rfl Try.func107 (by kernel_rfl) rfl #[.int .i64 a0] rfl ?_; (with_reducible refine (impl_coeffOk.calls a0 true _ A3.out).mono ?_); rintro e w' ⟨rfl, ⟨nd, rfl⟩⟩; refine ⟨_, rfl, ?_⟩) | (go_at_call 107; (with_reducible refine (impl_coeffOk.calls a1 true _ A5.out).mono ?_); rintro e w' ⟨rfl, ⟨nd, rfl⟩⟩) | (go_at_call 107; (with_reducible refine (impl_coeffOk.calls (wrap64 (a0 * a1)) false _ A7.out).mono ?_); rintro e w' ⟨rfl, ⟨nd, rfl⟩⟩))
    go_ret2
    exact ⟨by first | rfl | (simp; done) | (simp [*]; done), by repeat (first | exact Drawn0.refl _ | apply Drawn0.step)⟩
  ·replace c6 := Bool.eq_false_iff.mpr c6
   subst c6
   have H1 : (some (0, false)) = some (r1, r2) := by rw [if_neg (show ¬ (false = true) by decide)] at H; exact H
   clear H
   have H := H1
   clear H1
   simp only [Option.some.injEq, Prod.mk.injEq] at H
   obtain ⟨rfl, rfl⟩ := H
   go_enter Try.func125, Try.ntmps125
   go_wp2_with (first | ((with_reducible refine gate_callee (f := 107) rfl ?_); refine gl (some 7) rfl rfl Try.func107 (by kernel_rfl) rfl #[.int .i64 a0] rfl ?_; (with_reducible refine (impl_coeffOk.calls a0 true _ A3.out).mono ?_); rintro e w' ⟨rfl, ⟨nd, rfl⟩⟩; refine ⟨_, rfl, ?_⟩) | (go_at_call 107; (with_reducible refine (impl_coeffOk.calls a1 false _ A5.out).mono ?_); rintro e w' ⟨rfl, ⟨nd, rfl⟩⟩))
   go_ret2
   exact ⟨by first | rfl | (simp; done) | (simp [*]; done), by repeat (first | exact Drawn0.refl _ | apply Drawn0.step)⟩
 ·replace c4 := Bool.eq_false_iff.mpr c4
  subst c4
  have H1 : (some (0, false)) = some (r1, r2) := by rw [if_neg (show ¬ (false = true) by decide)] at H; exact H
  clear H
  have H := H1
  clear H1
  simp only [Option.some.injEq, Prod.mk.injEq] at H
  obtain ⟨rfl, rfl⟩ := H
  go_enter Try.func125, Try.ntmps125
  go_wp2_with (first | ((with_reducible refine gate_callee (f := 107) rfl ?_); refine gl (some 7) rfl rfl Try.func107 (by kernel_rfl) rfl #[.int .i64 a0] rfl ?_; (with_reducible refine (impl_coeffOk.calls a0 false _ A3.out).mono ?_); rintro e w' ⟨rfl, ⟨nd, rfl⟩⟩; refine ⟨_, rfl, ?_⟩))
  go_ret2
  exact ⟨by first | rfl | (simp; done) | (simp [*]; done), by repeat (first | exact Drawn0.refl _ | apply Drawn0.step)⟩

/-! ### impl_scaled: function 108 -/
def impl_scaled.f (a0 : Int) (a1 : Int) (a2 : Int) : Option (Int × Bool) := (impl_MulLimited.f a1 a2).bind fun bt197 => ((impl_AddLimited.f a0 bt197.1).bind fun bt199 => (if bt197.2 = true then (some (bt199.1, bt199.2)) else (some (bt199.1, false))))
set_option maxHeartbeats 8000000 in
set_option maxRecDepth 100000 in
theorem impl_scaled.calls (a0 : Int) (a1 : Int) (a2 : Int) (r1 : Int) (r2 : Bool) (w : World) (h : impl_scaled.f a0 a1 a2 = some (r1, r2)) :
  Calls Try.prog 108 #[.int .i64 a0, .int .i64 a1, .int .i64 a2] w fun e w' => e = .returned (.tuple #[.int .i64 r1, .bool r2]) ∧ Drawn0 w w' := by
 have H : ((impl_MulLimited.f a1 a2).bind fun bt197 => ((impl_AddLimited.f a0 bt197.1).bind fun bt199 => (if bt197.2 = true then (some (bt199.1, bt199.2)) else (some (bt199.1, false))))) = some (r1, r2) := h
 clear h
 replace H := Option.bind_eq_some_iff.mp H
 obtain ⟨⟨t197, t198⟩, A40, H⟩ := H
 replace H : ((impl_AddLimited.f a0 t197).bind fun bt199 => (if t198 = true then (some (bt199.1, bt199.2)) else (some (bt199.1, false)))) = some (r1, r2) := H
 have A4 := Aside0.mk A40
 clear A40
 replace H := Option.bind_eq_some_iff.mp H
 obtain ⟨⟨t199, t200⟩, A50, H⟩ := H
 replace H : (if t198 = true then (some (t199, t200)) else (some (t199, false))) = some (r1, r2) := H
 have A5 := Aside0.mk A50
 clear A50
 by_cases c6 : t198 = true
 ·subst c6
  have H1 : (some (t199, t200)) = some (r1, r2) := by rw [if_pos rfl] at H; exact H
  clear H
  have H := H1
  clear H1
  simp only [Option.some.injEq, Prod.mk.injEq] at H
  obtain ⟨rfl, rfl⟩ := H
  go_enter Try.func108, Try.ntmps108
  go_wp2_with (first | ((with_reducible refine gate_callee (f := 125) rfl ?_); refine gl (some 15) rfl rfl Try.func125 (by kernel_rfl) rfl #[.int .i64 a1, .int .i64 a2] rfl ?_; (with_reducible refine (impl_MulLimited.calls a1 a2 t197 true _ A4.out).mono ?_); rintro e w' ⟨rfl, ⟨nd, rfl⟩⟩; refine ⟨_, rfl, ?_⟩) | ((with_reducible refine gate_callee (f := 118) rfl ?_); refine gl (some 21) rfl rfl Try.func118 (by kernel_rfl) rfl #[.int .i64 a0, .int .i64 t197] rfl ?_; (with_reducible refine (impl_AddLimited.calls a0 t197 t199 t200 _ A5.out).mono ?_); rintro e w' ⟨rfl, ⟨nd, rfl⟩⟩; refine ⟨_, rfl, ?_⟩))
  go_ret2
  exact ⟨by first | rfl | (simp; done) | (simp [*]; done), by repeat (first | exact Drawn0.refl _ | apply Drawn0.step)⟩
 ·replace c6 := Bool.eq_false_iff.mpr c6
  subst c6
  have H1 : (some (t199, false)) = some (r1, r2) := by rw [if_neg (show ¬ (false = true) by decide)] at H; exact H
  clear H
  have H := H1
  clear H1
  simp only [Option.some.injEq, Prod.mk.injEq] at H
  obtain ⟨rfl, rfl⟩ := H
  go_enter Try.func108, Try.ntmps108
  go_wp2_with (first | ((with_reducible refine gate_callee (f := 125) rfl ?_); refine gl (some 15) rfl rfl Try.func125 (by kernel_rfl) rfl #[.int .i64 a1, .int .i64 a2] rfl ?_; (with_reducible refine (impl_MulLimited.calls a1 a2 t197 false _ A4.out).mono ?_); rintro e w' ⟨rfl, ⟨nd, rfl⟩⟩; refine ⟨_, rfl, ?_⟩) | ((with_reducible refine gate_callee (f := 118) rfl ?_); refine gl (some 21) rfl rfl Try.func118 (by kernel_rfl) rfl #[.int .i64 a0, .int .i64 t197] rfl ?_; (with_reducible refine (impl_AddLimited.calls a0 t197 t199 t200 _ A5.out).mono ?_); rintro e w' ⟨rfl, ⟨nd, rfl⟩⟩; refine ⟨_, rfl, ?_⟩))
  go_ret2
  exact ⟨by first | rfl | (simp; done) | (simp [*]; done), by repeat (first | exact Drawn0.refl _ | apply Drawn0.step)⟩

/-! ### impl_AddScaled: function 75 -/
mutual
def impl_AddScaled.j0 : Nat → Int → Int → Bool → Int → List Int → Int → List Int → Option (Int × List Int × Bool)
 | 0, _, _, _, _, _, _, _ => none
 | k + 1, x1, x8, x32, x202000, x202001, x203000, x203001 => if x32 = true then (some (0, ([] : List Int), false)) else ((impl_ConstLin.f 0 x8).bind fun bt207 => ((impl_scaled.f x202000 x1 x203000).bind fun bt212 => (impl_AddScaled.l0 k x1 bt212.2 (x202001.length : Int) 0 x202000 x202001 x203000 x203001 bt212.1 bt207.2)))
def impl_AddScaled.l0 : Nat → Int → Bool → Int → Int → Int → List Int → Int → List Int → Int → List Int → Option (Int × List Int × Bool)
 | 0, _, _, _, _, _, _, _, _, _, _ => none
 | k + 1, x1, x11, x49, x50, x202000, x202001, x203000, x203001, x212000, x212001 => if x50 < x49 then (if 0 ≤ x50 then (if x50 < (x202001.length : Int) then (if x50 < (x203001.length : Int) then ((impl_scaled.f (rd x202001 x50) x1 (rd x203001 x50)).bind fun bt216 => (if x50 < (x212001.length : Int) then ((some (x212001.set (x50 : Int).toNat bt216.1 : List Int)).bind fun y218 => (if x11 = true then (impl_AddScaled.l0 k x1 bt216.2 x49 (wrap64 (x50 + 1)) x202000 x202001 x203000 x203001 x212000 y218) else (impl_AddScaled.l0 k x1 false x49 (wrap64 (x50 + 1)) x202000 x202001 x203000 x203001 x212000 y218))) else (none))) else (none)) else (none)) else (none)) else (if x11 = true then (some (x212000, x212001, true)) else (some (0, ([] : List Int), false)))
end
def impl_AddScaled.f (k : Nat) (a0_0 : Int) (l0_1 : List Int) (a1 : Int) (a2_0 : Int) (l2_1 : List Int) : Option (Int × List Int × Bool) := (impl_IsValidLin.f k a0_0 l0_1 (l0_1.length : Int)).bind fun t204 => (if t204 = true then ((impl_IsValidLin.f k a2_0 l2_1 (l0_1.length : Int)).bind fun t205 => (if t205 = true then ((impl_coeffOk.f a1).bind fun t206 => (impl_AddScaled.j0 k a1 (l0_1.length : Int) (!t206) a0_0 l0_1 a2_0 l2_1)) else (impl_AddScaled.j0 k a1 (l0_1.length : Int) true a0_0 l0_1 a2_0 l2_1))) else (impl_AddScaled.j0 k a1 (l0_1.length : Int) true a0_0 l0_1 a2_0 l2_1))
theorem impl_AddScaled.mono_l : ∀ k, (∀ y0 y1 y2 y3 y4 y5 y6, LeO (impl_AddScaled.j0 k y0 y1 y2 y3 y4 y5 y6) (impl_AddScaled.j0 (k + 1) y0 y1 y2 y3 y4 y5 y6)) ∧ (∀ y0 y1 y2 y3 y4 y5 y6 y7 y8 y9, LeO (impl_AddScaled.l0 k y0 y1 y2 y3 y4 y5 y6 y7 y8 y9) (impl_AddScaled.l0 (k + 1) y0 y1 y2 y3 y4 y5 y6 y7 y8 y9))
 | 0 => ⟨fun _ _ _ _ _ _ _ r h => by simp [impl_AddScaled.j0] at h, fun _ _ _ _ _ _ _ _ _ _ r h => by simp [impl_AddScaled.l0] at h⟩
 | k + 1 => by
  obtain ⟨ih0, ih1⟩ := impl_AddScaled.mono_l k
  refine ⟨?_, ?_⟩
  ·intro y0 y1 y2 y3 y4 y5 y6
   unfold impl_AddScaled.j0
   repeat' first
   | (with_reducible exact ih0 _ _ _ _ _ _ _)
   | (with_reducible exact ih1 _ _ _ _ _ _ _ _ _ _)
   | (with_reducible exact impl_IsValidLin.mono _ _ _ _)
   | (with_reducible exact LeO.refl _)
   | (with_reducible exact LeO.none _)
   | (with_reducible refine LeO.ite ?_ ?_)
   | (with_reducible refine LeO.bind ?_ (fun _ => ?_))
   | exact ih0 _ _ _ _ _ _ _
   | exact ih1 _ _ _ _ _ _ _ _ _ _
   | exact impl_IsValidLin.mono _ _ _ _
   | exact LeO.none _
   | refine LeO.ite ?_ ?_
   | refine LeO.bind ?_ (fun _ => ?_)
  ·intro y0 y1 y2 y3 y4 y5 y6 y7 y8 y9
   unfold impl_AddScaled.l0
   repeat' first
   | (with_reducible exact ih0 _ _ _ _ _ _ _)
   | (with_reducible exact ih1 _ _ _ _ _ _ _ _ _ _)
   | (with_reducible exact impl_IsValidLin.mono _ _ _ _)
   | (with_reducible exact LeO.refl _)
   | (with_reducible exact LeO.none _)
   | (with_reducible refine LeO.ite ?_ ?_)
   | (with_reducible refine LeO.bind ?_ (fun _ => ?_))
   | exact ih0 _ _ _ _ _ _ _
   | exact ih1 _ _ _ _ _ _ _ _ _ _
   | exact impl_IsValidLin.mono _ _ _ _
   | exact LeO.none _
   | refine LeO.ite ?_ ?_
   | refine LeO.bind ?_ (fun _ => ?_)
theorem impl_AddScaled.mono : ∀ a0 a1 a2 a3 a4 k, LeO (impl_AddScaled.f k a0 a1 a2 a3 a4) (impl_AddScaled.f (k + 1) a0 a1 a2 a3 a4) := by
 intro a0 a1 a2 a3 a4 k
 obtain ⟨ih0, ih1⟩ := impl_AddScaled.mono_l k
 unfold impl_AddScaled.f
 repeat' first
   | (with_reducible exact ih0 _ _ _ _ _ _ _)
   | (with_reducible exact ih1 _ _ _ _ _ _ _ _ _ _)
   | (with_reducible exact impl_IsValidLin.mono _ _ _ _)
   | (with_reducible exact LeO.refl _)
   | (with_reducible exact LeO.none _)
   | (with_reducible refine LeO.ite ?_ ?_)
   | (with_reducible refine LeO.bind ?_ (fun _ => ?_))
   | exact ih0 _ _ _ _ _ _ _
   | exact ih1 _ _ _ _ _ _ _ _ _ _
   | exact impl_IsValidLin.mono _ _ _ _
   | exact LeO.none _
   | refine LeO.ite ?_ ?_
   | refine LeO.bind ?_ (fun _ => ?_)
set_option maxHeartbeats 8000000 in
set_option maxRecDepth 100000 in
theorem impl_AddScaled.calls (k : Nat) (a0_0 : Int) (A0_1 : Option Addr) (c0_1 : Nat) (l0_1 : List Int) (a1 : Int) (a2_0 : Int) (A2_1 : Option Addr) (c2_1 : Nat) (l2_1 : List Int) (r1 : Int) (r2 : List Int) (r3 : Bool) (w : World) (hr0_1 : Kd.C (Kd.int .i64) w A0_1 l0_1.length l0_1) (hc0_1 : l0_1.length ≤ c0_1) (hr2_1 : Kd.C (Kd.int .i64) w A2_1 l2_1.length l2_1) (hc2_1 : l2_1.length ≤ c2_1) (h : impl_AddScaled.f k a0_0 l0_1 a1 a2_0 l2_1 = some (r1, r2, r3)) :
  Calls Try.prog 75 #[.agg #[.int .i64 a0_0, .slice A0_1 l0_1.length c0_1], .int .i64 a1, .agg #[.int .i64 a2_0, .slice A2_1 l2_1.length c2_1]] w fun e w' => ∃ v1_ : Value, e = .returned (.tuple #[.agg #[.int .i64 r1, v1_], .bool r3]) ∧ Kd.R (Kd.int .i64) 3 w' w.heap.size (fun _ => True) v1_ r2 ∧ Below w.heap.size w w' := by
 have hu36 := Try.underlying36
 have HR0_1 := Aside0.mk hr0_1
 have HC0_1 := Aside0.mk hc0_1
 clear hr0_1 hc0_1
 have HR2_1 := Aside0.mk hr2_1
 have HC2_1 := Aside0.mk hc2_1
 clear hr2_1 hc2_1
 have HB := Aside0.mk (Below.refl w.heap.size w)
 have H : ((impl_IsValidLin.f k a0_0 l0_1 (l0_1.length : Int)).bind fun t204 => (if t204 = true then ((impl_IsValidLin.f k a2_0 l2_1 (l0_1.length : Int)).bind fun t205 => (if t205 = true then ((impl_coeffOk.f a1).bind fun t206 => (impl_AddScaled.j0 k a1 (l0_1.length : Int) (!t206) a0_0 l0_1 a2_0 l2_1)) else (impl_AddScaled.j0 k a1 (l0_1.length : Int) true a0_0 l0_1 a2_0 l2_1))) else (impl_AddScaled.j0 k a1 (l0_1.length : Int) true a0_0 l0_1 a2_0 l2_1))) = some (r1, r2, r3) := h
 clear h
 have HC4 := Aside0.mk H
 clear H
 go_enter Try.func75, Try.ntmps75
 go_upto_region 2 with (first | ((with_reducible refine gate_dst (N := 3) rfl ?_); refine box_event ?hg (N := 3) ?hd (cs := #[.int .i64 a0_0, .slice A0_1 l0_1.length c0_1]) (t := 36) ?hr ?_; (case hd => rfl); (case hg => rfl); (case hr => first | (go_simp; done) | (go_simp; rfl)); intro gb201 hg w5 hbox hb; have BK201 := Aside0.mk (hbox); have GW201 := gw hg HB; have GE201 := gw hg HB; replace HB := bs HB hb; clear hb hbox hg) | ((with_reducible refine gate_dst (N := 5) rfl ?_); refine box_event ?hg (N := 5) ?hd (cs := #[.int .i64 a2_0, .slice A2_1 l2_1.length c2_1]) (t := 36) ?hr ?_; (case hd => rfl); (case hg => rfl); (case hr => first | (go_simp; done) | (go_simp; rfl)); intro gb202 hg w6 hbox hb; have BK202 := Aside0.mk (hbox); have GW202 := gw hg HB; have GE202 := gw hg HB; replace HB := bs HB hb; have NB201_202 := nl hg BK201; have NB202_201 := ng hg BK201; replace BK201 := bb BK201 hb; clear hb hbox hg) | ((with_reducible refine gate_dst (N := 6) rfl ?_); refine box_event ?hg (N := 6) ?hd (cs := #[.int .i64 0, .slice none 0 0]) (t := 36) ?hr ?_; (case hd => rfl); (case hg => rfl); (case hr => first | (go_simp; done) | (go_simp; rfl)); intro gb203 hg w7 hbox hb; have BK203 := Aside0.mk (hbox); have GW203 := gw hg HB; have GE203 := gw hg HB; replace HB := bs HB hb; have NB201_203 := nl hg BK201; have NB203_201 := ng hg BK201; replace BK201 := bb BK201 hb; have NB202_203 := nl hg BK202; have NB203_202 := ng hg BK202; replace BK202 := bb BK202 hb; clear hb hbox hg; have hnb8 := NB201_202.out; have hnc8 := NB202_201.out; have hnb9 := NB201_203.out; have hnc9 := NB203_201.out; obtain ⟨hcz10_0, hcz10_1⟩ := c2 BK201; have hfz10_0 := blk_frozen BK201.out 0; have hfz10_1 := blk_frozen BK201.out 1))
 repeat (go_quiet (first | ((with_reducible refine gate_dst (N := 3) rfl ?_); refine box_event ?hg (N := 3) ?hd (cs := #[.int .i64 a0_0, .slice A0_1 l0_1.length c0_1]) (t := 36) ?hr ?_; (case hd => rfl); (case hg => rfl); (case hr => first | (go_simp; done) | (go_simp; rfl)); intro gb201 hg w5 hbox hb; have BK201 := Aside0.mk (hbox); have GW201 := gw hg HB; have GE201 := gw hg HB; replace HB := bs HB hb; clear hb hbox hg) | ((with_reducible refine gate_dst (N := 5) rfl ?_); refine box_event ?hg (N := 5) ?hd (cs := #[.int .i64 a2_0, .slice A2_1 l2_1.length c2_1]) (t := 36) ?hr ?_; (case hd => rfl); (case hg => rfl); (case hr => first | (go_simp; done) | (go_simp; rfl)); intro gb202 hg w6 hbox hb; have BK202 := Aside0.mk (hbox); have GW202 := gw hg HB; have GE202 := gw hg HB; replace HB := bs HB hb; have NB201_202 := nl hg BK201; have NB202_201 := ng hg BK201; replace BK201 := bb BK201 hb; clear hb hbox hg) | ((with_reducible refine gate_dst (N := 6) rfl ?_); refine box_event ?hg (N := 6) ?hd (cs := #[.int .i64 0, .slice none 0 0]) (t := 36) ?hr ?_; (case hd => rfl); (case hg => rfl); (case hr => first | (go_simp; done) | (go_simp; rfl)); intro gb203 hg w7 hbox hb; have BK203 := Aside0.mk (hbox); have GW203 := gw hg HB; have GE203 := gw hg HB; replace HB := bs HB hb; have NB201_203 := nl hg BK201; have NB203_201 := ng hg BK201; replace BK201 := bb BK201 hb; have NB202_203 := nl hg BK202; have NB203_202 := ng hg BK202; replace BK202 := bb BK202 hb; clear hb hbox hg; have hnb8 := NB201_202.out; have hnc8 := NB202_201.out; have hnb9 := NB201_203.out; have hnc9 := NB203_201.out; obtain ⟨hcz10_0, hcz10_1⟩ := c2 BK201; have hfz10_0 := blk_frozen BK201.out 0; have hfz10_1 := blk_frozen BK201.out 1)); go_upto_region 2 with (first | ((with_reducible refine gate_dst (N := 3) rfl ?_); refine box_event ?hg (N := 3) ?hd (cs := #[.int .i64 a0_0, .slice A0_1 l0_1.length c0_1]) (t := 36) ?hr ?_; (case hd => rfl); (case hg => rfl); (case hr => first | (go_simp; done) | (go_simp; rfl)); intro gb201 hg w5 hbox hb; have BK201 := Aside0.mk (hbox); have GW201 := gw hg HB; have GE201 := gw hg HB; replace HB := bs HB hb; clear hb hbox hg) | ((with_reducible refine gate_dst (N := 5) rfl ?_); refine box_event ?hg (N := 5) ?hd (cs := #[.int .i64 a2_0, .slice A2_1 l2_1.length c2_1]) (t := 36) ?hr ?_; (case hd => rfl); (case hg => rfl); (case hr => first | (go_simp; done) | (go_simp; rfl)); intro gb202 hg w6 hbox hb; have BK202 := Aside0.mk (hbox); have GW202 := gw hg HB; have GE202 := gw hg HB; replace HB := bs HB hb; have NB201_202 := nl hg BK201; have NB202_201 := ng hg BK201; replace BK201 := bb BK201 hb; clear hb hbox hg) | ((with_reducible refine gate_dst (N := 6) rfl ?_); refine box_event ?hg (N := 6) ?hd (cs := #[.int .i64 0, .slice none 0 0]) (t := 36) ?hr ?_; (case hd => rfl); (case hg => rfl); (case hr => first | (go_simp; done) | (go_simp; rfl)); intro gb203 hg w7 hbox hb; have BK203 := Aside0.mk (hbox); have GW203 := gw hg HB; have GE203 := gw hg HB; replace HB := bs HB hb; have NB201_203 := nl hg BK201; have NB203_201 := ng hg BK201; replace BK201 := bb BK201 hb; have NB202_203 := nl hg BK202; have NB203_202 := ng hg BK202; replace BK202 := bb BK202 hb; clear hb hbox hg; have hnb8 := NB201_202.out; have hnc8 := NB202_201.out; have hnb9 := NB201_203.out; have hnc9 := NB203_201.out; obtain ⟨hcz10_0, hcz10_1⟩ := c2 BK201; have hfz10_0 := blk_frozen BK201.out 0; have hfz10_1 := blk_frozen BK201.out 1)))
 (try simp only [Act.put, List.setIfInBounds_toArray, List.set_cons_zero, List.set_cons_succ])
 go_cut [32] (fun v32 wc => ∃ (kq : Nat) (x32_3 : Bool), v32 = .bool x32_3 ∧ Aside0 (impl_AddScaled.j0 kq a1 (l0_1.length : Int) x32_3 a0_0 l0_1 a2_0 l2_1 = some (r1, r2, r3)) ∧ Aside0 (kq ≤ k) ∧ Aside0 (wc.heap[gb201]? = some (.cells #[.int .i64 a0_0, (.slice A0_1 l0_1.length c0_1)] 36 (0, 0))) ∧ Aside0 (wc.heap[gb202]? = some (.cells #[.int .i64 a2_0, (.slice A2_1 l2_1.length c2_1)] 36 (0, 0))) ∧ Aside0 (wc.heap[gb203]? = some (.cells #[.int .i64 0, (.slice none 0 0)] 36 (0, 0))) ∧ Aside0 (Below w.heap.size w wc))
 case first =>
  have H := HC4.out
  clear HC4
  replace H := Option.bind_eq_some_iff.mp H
  obtain ⟨t204, A110, H⟩ := H
  replace H : (if t204 = true then ((impl_IsValidLin.f k a2_0 l2_1 (l0_1.length : Int)).bind fun t205 => (if t205 = true then ((impl_coeffOk.f a1).bind fun t206 => (impl_AddScaled.j0 k a1 (l0_1.length : Int) (!t206) a0_0 l0_1 a2_0 l2_1)) else (impl_AddScaled.j0 k a1 (l0_1.length : Int) true a0_0 l0_1 a2_0 l2_1))) else (impl_AddScaled.j0 k a1 (l0_1.length : Int) true a0_0 l0_1 a2_0 l2_1)) = some (r1, r2, r3) := H
  have A11 := Aside0.mk A110
  clear A110
  by_cases c12 : t204 = true
  ·subst c12
   have H1 : ((impl_IsValidLin.f k a2_0 l2_1 (l0_1.length : Int)).bind fun t205 => (if t205 = true then ((impl_coeffOk.f a1).bind fun t206 => (impl_AddScaled.j0 k a1 (l0_1.length : Int) (!t206) a0_0 l0_1 a2_0 l2_1)) else (impl_AddScaled.j0 k a1 (l0_1.length : Int) true a0_0 l0_1 a2_0 l2_1))) = some (r1, r2, r3) := by rw [if_pos rfl] at H; exact H
   clear H
   have H := H1
   clear H1
   replace H := Option.bind_eq_some_iff.mp H
   obtain ⟨t205, A130, H⟩ := H
   replace H : (if t205 = true then ((impl_coeffOk.f a1).bind fun t206 => (impl_AddScaled.j0 k a1 (l0_1.length : Int) (!t206) a0_0 l0_1 a2_0 l2_1)) else (impl_AddScaled.j0 k a1 (l0_1.length : Int) true a0_0 l0_1 a2_0 l2_1)) = some (r1, r2, r3) := H
   have A13 := Aside0.mk A130
   clear A130
   by_cases c14 : t205 = true
   ·subst c14
    have H1 : ((impl_coeffOk.f a1).bind fun t206 => (impl_AddScaled.j0 k a1 (l0_1.length : Int) (!t206) a0_0 l0_1 a2_0 l2_1)) = some (r1, r2, r3) := by rw [if_pos rfl] at H; exact H
    clear H
    have H := H1
    clear H1
    replace H := Option.bind_eq_some_iff.mp H
    obtain ⟨t206, A150, H⟩ := H
    replace H : (impl_AddScaled.j0 k a1 (l0_1.length : Int) (!t206) a0_0 l0_1 a2_0 l2_1) = some (r1, r2, r3) := H
    have A15 := Aside0.mk A150
    clear A150
    have H' := Aside0.mk H
    clear H
    have hnb16 := NB201_202.out
    have hnc16 := NB202_201.out
    have hnb17 := NB201_203.out
    have hnc17 := NB203_201.out
    obtain ⟨hcz18_0, hcz18_1⟩ := c2 BK201
    have hfz18_0 := blk_frozen BK201.out 0
    have hfz18_1 := blk_frozen BK201.out 1
    go_wp2_with (first | (go_at_call 85; (with_reducible refine (impl_IsValidLin.calls k a0_0 _ _ l0_1 (l0_1.length : Int) true _ ?side1 ?side2 A11.out).mono ?_); (case side1 => exact mc ((Kd.C_below HR0_1.out HB.out))); (case side2 => exact HC0_1.out); rintro e w19 ⟨rfl, hb⟩; replace BK201 := bb BK201 hb; replace BK202 := bb BK202 hb; replace BK203 := bb BK203 hb; replace HB := bs HB hb; (try clear hb); have hnb20 := NB202_203.out; have hnc20 := NB203_202.out; obtain ⟨hcz21_0, hcz21_1⟩ := c2 BK202; have hfz21_0 := blk_frozen BK202.out 0; have hfz21_1 := blk_frozen BK202.out 1) | (go_at_call 85; (with_reducible refine (impl_IsValidLin.calls k a2_0 _ _ l2_1 (l0_1.length : Int) true _ ?side1 ?side2 A13.out).mono ?_); (case side1 => exact mc ((Kd.C_below HR2_1.out HB.out))); (case side2 => exact HC2_1.out); rintro e w22 ⟨rfl, hb⟩; replace BK201 := bb BK201 hb; replace BK202 := bb BK202 hb; replace BK203 := bb BK203 hb; replace HB := bs HB hb; (try clear hb)) | (go_at_call 107; (with_reducible refine (impl_coeffOk.calls a1 t206 _ A15.out).mono ?_); rintro e w' ⟨rfl, ⟨nd, rfl⟩⟩; (try first | exact ⟨rfl, _, World.drewN_drewN _ _ _⟩ | exact ⟨rfl, _, Eq.trans (World.drewN_drewN _ _ _) (congrArg (World.drewN _) (Nat.add_assoc _ _ _))⟩)))
    repeat (go_quiet (first | (go_at_call 85; (with_reducible refine (impl_IsValidLin.calls k a0_0 _ _ l0_1 (l0_1.length : Int) true _ ?side1 ?side2 A11.out).mono ?_); (case side1 => exact mc ((Kd.C_below HR0_1.out HB.out))); (case side2 => exact HC0_1.out); rintro e w19 ⟨rfl, hb⟩; replace BK201 := bb BK201 hb; replace BK202 := bb BK202 hb; replace BK203 := bb BK203 hb; replace HB := bs HB hb; (try clear hb); have hnb20 := NB202_203.out; have hnc20 := NB203_202.out; obtain ⟨hcz21_0, hcz21_1⟩ := c2 BK202; have hfz21_0 := blk_frozen BK202.out 0; have hfz21_1 := blk_frozen BK202.out 1) | (go_at_call 85; (with_reducible refine (impl_IsValidLin.calls k a2_0 _ _ l2_1 (l0_1.length : Int) true _ ?side1 ?side2 A13.out).mono ?_); (case side1 => exact mc ((Kd.C_below HR2_1.out HB.out))); (case side2 => exact HC2_1.out); rintro e w22 ⟨rfl, hb⟩; replace BK201 := bb BK201 hb; replace BK202 := bb BK202 hb; replace BK203 := bb BK203 hb; replace HB := bs HB hb; (try clear hb)) | (go_at_call 107; (with_reducible refine (impl_coeffOk.calls a1 t206 _ A15.out).mono ?_); rintro e w' ⟨rfl, ⟨nd, rfl⟩⟩; (try first | exact ⟨rfl, _, World.drewN_drewN _ _ _⟩ | exact ⟨rfl, _, Eq.trans (World.drewN_drewN _ _ _) (congrArg (World.drewN _) (Nat.add_assoc _ _ _))⟩))); try go_wp2_with (first | (go_at_call 85; (with_reducible refine (impl_IsValidLin.calls k a0_0 _ _ l0_1 (l0_1.length : Int) true _ ?side1 ?side2 A11.out).mono ?_); (case side1 => exact mc ((Kd.C_below HR0_1.out HB.out))); (case side2 => exact HC0_1.out); rintro e w19 ⟨rfl, hb⟩; replace BK201 := bb BK201 hb; replace BK202 := bb BK202 hb; replace BK203 := bb BK203 hb; replace HB := bs HB hb; (try clear hb); have hnb20 := NB202_203.out; have hnc20 := NB203_202.out; obtain ⟨hcz21_0, hcz21_1⟩ := c2 BK202; have hfz21_0 := blk_frozen BK202.out 0; have hfz21_1 := blk_frozen BK202.out 1) | (go_at_call 85; (with_reducible refine (impl_IsValidLin.calls k a2_0 _ _ l2_1 (l0_1.length : Int) true _ ?side1 ?side2 A13.out).mono ?_); (case side1 => exact mc ((Kd.C_below HR2_1.out HB.out))); (case side2 => exact HC2_1.out); rintro e w22 ⟨rfl, hb⟩; replace BK201 := bb BK201 hb; replace BK202 := bb BK202 hb; replace BK203 := bb BK203 hb; replace HB := bs HB hb; (try clear hb)) | (go_at_call 107; (with_reducible refine (impl_coeffOk.calls a1 t206 _ A15.out).mono ?_); rintro e w' ⟨rfl, ⟨nd, rfl⟩⟩; (try first | exact ⟨rfl, _, World.drewN_drewN _ _ _⟩ | exact ⟨rfl, _, Eq.trans (World.drewN_drewN _ _ _) (congrArg (World.drewN _) (Nat.add_assoc _ _ _))⟩))))
    go_meet
    case rel => exact ⟨_, (!t206), (by first | rfl | (simp; done) | (simp [*]; done)), H', ⟨by first | omega | exact Nat.le_refl _⟩, ⟨mb BK201⟩, ⟨mb BK202⟩, ⟨mb BK203⟩, ⟨ms HB⟩⟩
   ·replace c14 := Bool.eq_false_iff.mpr c14
    subst c14
    have H1 : (impl_AddScaled.j0 k a1 (l0_1.length : Int) true a0_0 l0_1 a2_0 l2_1) = some (r1, r2, r3) := by rw [if_neg (show ¬ (false = true) by decide)] at H; exact H
    clear H
    have H := H1
    clear H1
    have H' := Aside0.mk H
    clear H
    have hnb23 := NB201_202.out
    have hnc23 := NB202_201.out
    have hnb24 := NB201_203.out
    have hnc24 := NB203_201.out
    obtain ⟨hcz25_0, hcz25_1⟩ := c2 BK201
    have hfz25_0 := blk_frozen BK201.out 0
    have hfz25_1 := blk_frozen BK201.out 1
    go_wp2_with (first | (go_at_call 85; (with_reducible refine (impl_IsValidLin.calls k a0_0 _ _ l0_1 (l0_1.length : Int) true _ ?side1 ?side2 A11.out).mono ?_); (case side1 => exact mc ((Kd.C_below HR0_1.out HB.out))); (case side2 => exact HC0_1.out); rintro e w26 ⟨rfl, hb⟩; replace BK201 := bb BK201 hb; replace BK202 := bb BK202 hb; replace BK203 := bb BK203 hb; replace HB := bs HB hb; (try clear hb); have hnb27 := NB202_203.out; have hnc27 := NB203_202.out; obtain ⟨hcz28_0, hcz28_1⟩ := c2 BK202; have hfz28_0 := blk_frozen BK202.out 0; have hfz28_1 := blk_frozen BK202.out 1) | (go_at_call 85; (with_reducible refine (impl_IsValidLin.calls k a2_0 _ _ l2_1 (l0_1.length : Int) false _ ?side1 ?side2 A13.out).mono ?_); (case side1 => exact mc ((Kd.C_below HR2_1.out HB.out))); (case side2 => exact HC2_1.out); rintro e w29 ⟨rfl, hb⟩; replace BK201 := bb BK201 hb; replace BK202 := bb BK202 hb; replace BK203 := bb BK203 hb; replace HB := bs HB hb; (try clear hb)))
    repeat (go_quiet (first | (go_at_call 85; (with_reducible refine (impl_IsValidLin.calls k a0_0 _ _ l0_1 (l0_1.length : Int) true _ ?side1 ?side2 A11.out).mono ?_); (case side1 => exact mc ((Kd.C_below HR0_1.out HB.out))); (case side2 => exact HC0_1.out); rintro e w26 ⟨rfl, hb⟩; replace BK201 := bb BK201 hb; replace BK202 := bb BK202 hb; replace BK203 := bb BK203 hb; replace HB := bs HB hb; (try clear hb); have hnb27 := NB202_203.out; have hnc27 := NB203_202.out; obtain ⟨hcz28_0, hcz28_1⟩ := c2 BK202; have hfz28_0 := blk_frozen BK202.out 0; have hfz28_1 := blk_frozen BK202.out 1) | (go_at_call 85; (with_reducible refine (impl_IsValidLin.calls k a2_0 _ _ l2_1 (l0_1.length : Int) false _ ?side1 ?side2 A13.out).mono ?_); (case side1 => exact mc ((Kd.C_below HR2_1.out HB.out))); (case side2 => exact HC2_1.out); rintro e w29 ⟨rfl, hb⟩; replace BK201 := bb BK201 hb; replace BK202 := bb BK202 hb; replace BK203 := bb BK203 hb; replace HB := bs HB hb; (try clear hb))); try go_wp2_with (first | (go_at_call 85; (with_reducible refine (impl_IsValidLin.calls k a0_0 _ _ l0_1 (l0_1.length : Int) true _ ?side1 ?side2 A11.out).mono ?_); (case side1 => exact mc ((Kd.C_below HR0_1.out HB.out))); (case side2 => exact HC0_1.out); rintro e w26 ⟨rfl, hb⟩; replace BK201 := bb BK201 hb; replace BK202 := bb BK202 hb; replace BK203 := bb BK203 hb; replace HB := bs HB hb; (try clear hb); have hnb27 := NB202_203.out; have hnc27 := NB203_202.out; obtain ⟨hcz28_0, hcz28_1⟩ := c2 BK202; have hfz28_0 := blk_frozen BK202.out 0; have hfz28_1 := blk_frozen BK202.out 1) | (go_at_call 85; (with_reducible refine (impl_IsValidLin.calls k a2_0 _ _ l2_1 (l0_1.length : Int) false _ ?side1 ?side2 A13.out).mono ?_); (case side1 => exact mc ((Kd.C_below HR2_1.out HB.out))); (case side2 => exact HC2_1.out); rintro e w29 ⟨rfl, hb⟩; replace BK201 := bb BK201 hb; replace BK202 := bb BK202 hb; replace BK203 := bb BK203 hb; replace HB := bs HB hb; (try clear hb))))
    go_meet
    case rel => exact ⟨_, (true), (by first | rfl | (simp; done) | (simp [*]; done)), H', ⟨by first | omega | exact Nat.le_refl _⟩, ⟨mb BK201⟩, ⟨mb BK202⟩, ⟨mb BK203⟩, ⟨ms HB⟩⟩
  ·replace c12 := Bool.eq_false_iff.mpr c12
   subst c12
   have H1 : (impl_AddScaled.j0 k a1 (l0_1.length : Int) true a0_0 l0_1 a2_0 l2_1) = some (r1, r2, r3) := by rw [if_neg (show ¬ (false = true) by decide)] at H; exact H
   clear H
   have H := H1
   clear H1
   have H' := Aside0.mk H
   clear H
   have hnb30 := NB201_202.out
   have hnc30 := NB202_201.out
   have hnb31 := NB201_203.out
   have hnc31 := NB203_201.out
   obtain ⟨hcz32_0, hcz32_1⟩ := c2 BK201
   have hfz32_0 := blk_frozen BK201.out 0
   have hfz32_1 := blk_frozen BK201.out 1
   go_wp2_with (first | (go_at_call 85; (with_reducible refine (impl_IsValidLin.calls k a0_0 _ _ l0_1 (l0_1.length : Int) false _ ?side1 ?side2 A11.out).mono ?_); (case side1 => exact mc ((Kd.C_below HR0_1.out HB.out))); (case side2 => exact HC0_1.out); rintro e w33 ⟨rfl, hb⟩; replace BK201 := bb BK201 hb; replace BK202 := bb BK202 hb; replace BK203 := bb BK203 hb; replace HB := bs HB hb; (try clear hb)))
   repeat (go_quiet (first | (go_at_call 85; (with_reducible refine (impl_IsValidLin.calls k a0_0 _ _ l0_1 (l0_1.length : Int) false _ ?side1 ?side2 A11.out).mono ?_); (case side1 => exact mc ((Kd.C_below HR0_1.out HB.out))); (case side2 => exact HC0_1.out); rintro e w33 ⟨rfl, hb⟩; replace BK201 := bb BK201 hb; replace BK202 := bb BK202 hb; replace BK203 := bb BK203 hb; replace HB := bs HB hb; (try clear hb))); try go_wp2_with (first | (go_at_call 85; (with_reducible refine (impl_IsValidLin.calls k a0_0 _ _ l0_1 (l0_1.length : Int) false _ ?side1 ?side2 A11.out).mono ?_); (case side1 => exact mc ((Kd.C_below HR0_1.out HB.out))); (case side2 => exact HC0_1.out); rintro e w33 ⟨rfl, hb⟩; replace BK201 := bb BK201 hb; replace BK202 := bb BK202 hb; replace BK203 := bb BK203 hb; replace HB := bs HB hb; (try clear hb))))
   go_meet
   case rel => exact ⟨_, (true), (by first | rfl | (simp; done) | (simp [*]; done)), H', ⟨by first | omega | exact Nat.le_refl _⟩, ⟨mb BK201⟩, ⟨mb BK202⟩, ⟨mb BK203⟩, ⟨ms HB⟩⟩
 case rest =>
  clear HC4
  try clear c1
  try clear c2
  try clear p2
  try clear c3
  try clear c7
  try clear c8
  try clear c9
  try clear c12
  try clear c14
  try clear c16
  try clear c17
  try clear c20
  try clear c23
  try clear c24
  try clear c27
  try clear c30
  try clear c31
  try clear hcz10_0
  try clear hcz10_1
  try clear hcz18_0
  try clear hcz18_1
  try clear hcz21_0
  try clear hcz21_1
  try clear hcz25_0
  try clear hcz25_1
  try clear hcz28_0
  try clear hcz28_1
  try clear hcz32_0
  try clear hcz32_1
  try clear hfz10_0
  try clear hfz10_1
  try clear hfz18_0
  try clear hfz18_1
  try clear hfz21_0
  try clear hfz21_1
  try clear hfz25_0
  try clear hfz25_1
  try clear hfz28_0
  try clear hfz28_1
  try clear hfz32_0
  try clear hfz32_1
  obtain ⟨kq, x32_3, rfl, HA, HJ3, BK201, BK202, BK203, HB⟩ := hcut
  cases kq with
  | zero => exact absurd HA.out (by simp [impl_AddScaled.j0])
  | succ kj3 =>
   have H := HA.out
   clear HA
   simp only [impl_AddScaled.j0] at H
   by_cases c34 : x32_3 = true
   ·subst c34
    have H1 : (some (0, ([] : List Int), false)) = some (r1, r2, r3) := by rw [if_pos rfl] at H; exact H
    clear H
    have H := H1
    clear H1
    simp only [Option.some.injEq, Prod.mk.injEq] at H
    obtain ⟨rfl, rfl, rfl⟩ := H
    have hnb35 := NB203_201.out
    have hnc35 := NB201_203.out
    have hnb36 := NB203_202.out
    have hnc36 := NB202_203.out
    obtain ⟨hcz37_0, hcz37_1⟩ := c2 BK203
    have hfz37_0 := blk_frozen BK203.out 0
    have hfz37_1 := blk_frozen BK203.out 1
    go_wp2
    repeat (go_quiet (fail); try go_wp2)
    refine bodyPost_ret (results_ct rfl _ _ gb203 36 #[.int .i64 0, .slice none 0 0] (0, 0) _ rfl (by (with_reducible repeat (first | refine blk_drewN ?_ _ | refine blk_drew ?_ | refine blk_alloc ?_ _)); refine blk_put (cs := #[.int .i64 0, .slice none 0 0]) ?_ 1 _ rfl; (with_reducible repeat (first | refine blk_drewN ?_ _ | refine blk_drew ?_ | refine blk_alloc ?_ _)); refine blk_put (cs := #[.int .i64 0, .slice none 0 0]) ?_ 0 _ rfl; (with_reducible repeat (first | refine blk_drewN ?_ _ | refine blk_drew ?_ | refine blk_alloc ?_ _)); exact BK203.out) Try.underlying36 rfl (by kernel_rfl)) rfl ?_
    exact ⟨_, by first | rfl | (simp [errW_none, errW_some] <;> rfl) | (simp [*, errW_none, errW_some] <;> rfl), by first | exact Kd.R_nil _ _ _ _ _ | exact Kd.N_nil _ _ _ _ _ | exact Kd.V_nil _ _ _ _ _ | exact Kd.Q_nil _ _ _ _ _ | exact Kd.S_nil _ _ _ _ _, ms HB⟩
   ·replace c34 := Bool.eq_false_iff.mpr c34
    subst c34
    have H1 : ((impl_ConstLin.f 0 (l0_1.length : Int)).bind fun bt207 => ((impl_scaled.f a0_0 a1 a2_0).bind fun bt212 => (impl_AddScaled.l0 kj3 a1 bt212.2 (l0_1.length : Int) 0 a0_0 l0_1 a2_0 l2_1 bt212.1 bt207.2))) = some (r1, r2, r3) := by rw [if_neg (show ¬ (false = true) by decide)] at H; exact H
    clear H
    have H := H1
    clear H1
    replace H := Option.bind_eq_some_iff.mp H
    obtain ⟨⟨t207, t208⟩, A380, H⟩ := H
    replace H : ((impl_scaled.f a0_0 a1 a2_0).bind fun bt212 => (impl_AddScaled.l0 kj3 a1 bt212.2 (l0_1.length : Int) 0 a0_0 l0_1 a2_0 l2_1 bt212.1 t208)) = some (r1, r2, r3) := H
    have A38 := Aside0.mk A380
    clear A380
    replace H := Option.bind_eq_some_iff.mp H
    obtain ⟨⟨t212, t213⟩, A390, H⟩ := H
    replace H : (impl_AddScaled.l0 kj3 a1 t213 (l0_1.length : Int) 0 a0_0 l0_1 a2_0 l2_1 t212 t208) = some (r1, r2, r3) := H
    have A39 := Aside0.mk A390
    clear A390
    have H' := Aside0.mk H
    clear H
    go_wp2_with (first | (go_at_call 74; (with_reducible refine (impl_ConstLin.calls 0 (l0_1.length : Int) t207 t208 _ A38.out).mono ?_); rintro e w40 ⟨v209, rfl, ho0, hb⟩; have HO210 := Aside0.mk (Kd.R_lower ho0 (below_size (ms HB))); replace BK201 := bb BK201 hb; replace BK202 := bb BK202 hb; replace BK203 := bb BK203 hb; replace HB := bs HB hb; (try clear hb); (try clear ho0)) | ((with_reducible refine gate_dst (N := 9) rfl ?_); refine box_event ?hg (N := 9) ?hd (cs := #[.int .i64 0, .slice none 0 0]) (t := 36) ?hr ?_; (case hd => rfl); (case hg => rfl); (case hr => first | (go_simp; done) | (go_simp; rfl)); intro gb211 hg w41 hbox hb; replace HO210 := rb HO210 hb; have BK211 := Aside0.mk (hbox); have GW211 := gw hg HB; have GE211 := gw hg HB; replace HB := bs HB hb; have NB201_211 := nl hg BK201; have NB211_201 := ng hg BK201; replace BK201 := bb BK201 hb; have NB202_211 := nl hg BK202; have NB211_202 := ng hg BK202; replace BK202 := bb BK202 hb; have NB203_211 := nl hg BK203; have NB211_203 := ng hg BK203; replace BK203 := bb BK203 hb; clear hb hbox hg; have hnb42 := NB211_201.out; have hnc42 := NB201_211.out; have hnb43 := NB211_202.out; have hnc43 := NB202_211.out; have hnb44 := NB211_203.out; have hnc44 := NB203_211.out; obtain ⟨hcz45_0, hcz45_1⟩ := c2 BK211; have hfz45_0 := blk_frozen BK211.out 0; have hfz45_1 := blk_frozen BK211.out 1; obtain ⟨Ao46, co46, eo46⟩ := Kd.R_slice HO210.out; subst eo46; have hnb47 := NB201_202.out; have hnc47 := NB202_201.out; have hnb48 := NB201_203.out; have hnc48 := NB203_201.out; obtain ⟨hcz49_0, hcz49_1⟩ := c2 BK201; have hfz49_0 := blk_frozen BK201.out 0; have hfz49_1 := blk_frozen BK201.out 1; have hnb50 := NB202_203.out; have hnc50 := NB203_202.out; obtain ⟨hcz51_0, hcz51_1⟩ := c2 BK202; have hfz51_0 := blk_frozen BK202.out 0; have hfz51_1 := blk_frozen BK202.out 1) | (go_at_call 108; (with_reducible refine (impl_scaled.calls a0_0 a1 a2_0 t212 t213 _ A39.out).mono ?_); rintro e w' ⟨rfl, ⟨nd, rfl⟩⟩; (try first | exact ⟨rfl, _, World.drewN_drewN _ _ _⟩ | exact ⟨rfl, _, Eq.trans (World.drewN_drewN _ _ _) (congrArg (World.drewN _) (Nat.add_assoc _ _ _))⟩)))
    repeat (go_quiet (first | (go_at_call 74; (with_reducible refine (impl_ConstLin.calls 0 (l0_1.length : Int) t207 t208 _ A38.out).mono ?_); rintro e w40 ⟨v209, rfl, ho0, hb⟩; have HO210 := Aside0.mk (Kd.R_lower ho0 (below_size (ms HB))); replace BK201 := bb BK201 hb; replace BK202 := bb BK202 hb; replace BK203 := bb BK203 hb; replace HB := bs HB hb; (try clear hb); (try clear ho0)) | ((with_reducible refine gate_dst (N := 9) rfl ?_); refine box_event ?hg (N := 9) ?hd (cs := #[.int .i64 0, .slice none 0 0]) (t := 36) ?hr ?_; (case hd => rfl); (case hg => rfl); (case hr => first | (go_simp; done) | (go_simp; rfl)); intro gb211 hg w41 hbox hb; replace HO210 := rb HO210 hb; have BK211 := Aside0.mk (hbox); have GW211 := gw hg HB; have GE211 := gw hg HB; replace HB := bs HB hb; have NB201_211 := nl hg BK201; have NB211_201 := ng hg BK201; replace BK201 := bb BK201 hb; have NB202_211 := nl hg BK202; have NB211_202 := ng hg BK202; replace BK202 := bb BK202 hb; have NB203_211 := nl hg BK203; have NB211_203 := ng hg BK203; replace BK203 := bb BK203 hb; clear hb hbox hg; have hnb42 := NB211_201.out; have hnc42 := NB201_211.out; have hnb43 := NB211_202.out; have hnc43 := NB202_211.out; have hnb44 := NB211_203.out; have hnc44 := NB203_211.out; obtain ⟨hcz45_0, hcz45_1⟩ := c2 BK211; have hfz45_0 := blk_frozen BK211.out 0; have hfz45_1 := blk_frozen BK211.out 1; obtain ⟨Ao46, co46, eo46⟩ := Kd.R_slice HO210.out; subst eo46; have hnb47 := NB201_202.out; have hnc47 := NB202_201.out; have hnb48 := NB201_203.out; have hnc48 := NB203_201.out; obtain ⟨hcz49_0, hcz49_1⟩ := c2 BK201; have hfz49_0 := blk_frozen BK201.out 0; have hfz49_1 := blk_frozen BK201.out 1; have hnb50 := NB202_203.out; have hnc50 := NB203_202.out; obtain ⟨hcz51_0, hcz51_1⟩ := c2 BK202; have hfz51_0 := blk_frozen BK202.out 0; have hfz51_1 := blk_frozen BK202.out 1) | (go_at_call 108; (with_reducible refine (impl_scaled.calls a0_0 a1 a2_0 t212 t213 _ A39.out).mono ?_); rintro e w' ⟨rfl, ⟨nd, rfl⟩⟩; (try first | exact ⟨rfl, _, World.drewN_drewN _ _ _⟩ | exact ⟨rfl, _, Eq.trans (World.drewN_drewN _ _ _) (congrArg (World.drewN _) (Nat.add_assoc _ _ _))⟩))); try go_wp2_with (first | (go_at_call 74; (with_reducible refine (impl_ConstLin.calls 0 (l0_1.length : Int) t207 t208 _ A38.out).mono ?_); rintro e w40 ⟨v209, rfl, ho0, hb⟩; have HO210 := Aside0.mk (Kd.R_lower ho0 (below_size (ms HB))); replace BK201 := bb BK201 hb; replace BK202 := bb BK202 hb; replace BK203 := bb BK203 hb; replace HB := bs HB hb; (try clear hb); (try clear ho0)) | ((with_reducible refine gate_dst (N := 9) rfl ?_); refine box_event ?hg (N := 9) ?hd (cs := #[.int .i64 0, .slice none 0 0]) (t := 36) ?hr ?_; (case hd => rfl); (case hg => rfl); (case hr => first | (go_simp; done) | (go_simp; rfl)); intro gb211 hg w41 hbox hb; replace HO210 := rb HO210 hb; have BK211 := Aside0.mk (hbox); have GW211 := gw hg HB; have GE211 := gw hg HB; replace HB := bs HB hb; have NB201_211 := nl hg BK201; have NB211_201 := ng hg BK201; replace BK201 := bb BK201 hb; have NB202_211 := nl hg BK202; have NB211_202 := ng hg BK202; replace BK202 := bb BK202 hb; have NB203_211 := nl hg BK203; have NB211_203 := ng hg BK203; replace BK203 := bb BK203 hb; clear hb hbox hg; have hnb42 := NB211_201.out; have hnc42 := NB201_211.out; have hnb43 := NB211_202.out; have hnc43 := NB202_211.out; have hnb44 := NB211_203.out; have hnc44 := NB203_211.out; obtain ⟨hcz45_0, hcz45_1⟩ := c2 BK211; have hfz45_0 := blk_frozen BK211.out 0; have hfz45_1 := blk_frozen BK211.out 1; obtain ⟨Ao46, co46, eo46⟩ := Kd.R_slice HO210.out; subst eo46; have hnb47 := NB201_202.out; have hnc47 := NB202_201.out; have hnb48 := NB201_203.out; have hnc48 := NB203_201.out; obtain ⟨hcz49_0, hcz49_1⟩ := c2 BK201; have hfz49_0 := blk_frozen BK201.out 0; have hfz49_1 := blk_frozen BK201.out 1; have hnb50 := NB202_203.out; have hnc50 := NB203_202.out; obtain ⟨hcz51_0, hcz51_1⟩ := c2 BK202; have hfz51_0 := blk_frozen BK202.out 0; have hfz51_1 := blk_frozen BK202.out 1) | (go_at_call 108; (with_reducible refine (impl_scaled.calls a0_0 a1 a2_0 t212 t213 _ A39.out).mono ?_); rintro e w' ⟨rfl, ⟨nd, rfl⟩⟩; (try first | exact ⟨rfl, _, World.drewN_drewN _ _ _⟩ | exact ⟨rfl, _, Eq.trans (World.drewN_drewN _ _ _) (congrArg (World.drewN _) (Nat.add_assoc _ _ _))⟩))))
    go_loopg [11, 50] kj3 (fun kq v11 v50 w' => ∃ (x11_2 : Bool) (x50_2 : Int) (x212001_2 : List Int) (u212001 : Value), v11 = .bool x11_2 ∧ v50 = .int .i64 x50_2 ∧ Aside0 (impl_AddScaled.l0 kq a1 x11_2 (l0_1.length : Int) x50_2 a0_0 l0_1 a2_0 l2_1 t212 x212001_2 = some (r1, r2, r3)) ∧ Aside0 (kq ≤ kj3) ∧ Aside0 (Kd.R (Kd.int .i64) 3 w' w.heap.size (fun _ => True) u212001 x212001_2) ∧ Aside0 (w'.heap[gb201]? = some (.cells #[.int .i64 a0_0, (.slice A0_1 l0_1.length c0_1)] 36 (0, 0))) ∧ Aside0 (w'.heap[gb202]? = some (.cells #[.int .i64 a2_0, (.slice A2_1 l2_1.length c2_1)] 36 (0, 0))) ∧ Aside0 (w'.heap[gb203]? = some (.cells #[.int .i64 0, (.slice none 0 0)] 36 (0, 0))) ∧ Aside0 (w'.heap[gb211]? = some (.cells #[.int .i64 t212, u212001] 36 (0, 0))) ∧ Aside0 (Below w.heap.size w w'))
    case atStart => exact ⟨(t213), (0), (t208), (.slice Ao46 t208.length co46), (by first | rfl | (simp; done) | (simp [*]; done)), (by first | rfl | (simp; done) | (simp [*]; done)), H', ⟨Nat.le_refl _⟩, ⟨by (with_reducible repeat (first | apply Kd.R_alloc | apply Kd.R_drewN | apply Kd.R_drew)); exact Kd.R_mono (Kd.R_far (p := ⟨gb211, 0, none⟩) (Kd.R_far (p := ⟨gb211, 1, none⟩) (Kd.R_far (p := ⟨gb211, 0, none⟩) (Kd.R_types HO210.out BK211.out (by decide)) (fun _ hk => hk.2) (.int .i64 t207)) (fun _ hk => hk.2) (.slice Ao46 t208.length co46)) (fun _ hk => hk.2) (.int .i64 t212)) (fun _ hk => trivial)⟩, ⟨by (with_reducible repeat (first | refine blk_drewN ?_ _ | refine blk_drew ?_ | refine blk_alloc ?_ _)); refine blk_far ?_ NB201_211.out _; (with_reducible repeat (first | refine blk_drewN ?_ _ | refine blk_drew ?_ | refine blk_alloc ?_ _)); refine blk_far ?_ NB201_211.out _; (with_reducible repeat (first | refine blk_drewN ?_ _ | refine blk_drew ?_ | refine blk_alloc ?_ _)); refine blk_far ?_ NB201_211.out _; (with_reducible repeat (first | refine blk_drewN ?_ _ | refine blk_drew ?_ | refine blk_alloc ?_ _)); exact BK201.out⟩, ⟨by (with_reducible repeat (first | refine blk_drewN ?_ _ | refine blk_drew ?_ | refine blk_alloc ?_ _)); refine blk_far ?_ NB202_211.out _; (with_reducible repeat (first | refine blk_drewN ?_ _ | refine blk_drew ?_ | refine blk_alloc ?_ _)); refine blk_far ?_ NB202_211.out _; (with_reducible repeat (first | refine blk_drewN ?_ _ | refine blk_drew ?_ | refine blk_alloc ?_ _)); refine blk_far ?_ NB202_211.out _; (with_reducible repeat (first | refine blk_drewN ?_ _ | refine blk_drew ?_ | refine blk_alloc ?_ _)); exact BK202.out⟩, ⟨by (with_reducible repeat (first | refine blk_drewN ?_ _ | refine blk_drew ?_ | refine blk_alloc ?_ _)); refine blk_far ?_ NB203_211.out _; (with_reducible repeat (first | refine blk_drewN ?_ _ | refine blk_drew ?_ | refine blk_alloc ?_ _)); refine blk_far ?_ NB203_211.out _; (with_reducible repeat (first | refine blk_drewN ?_ _ | refine blk_drew ?_ | refine blk_alloc ?_ _)); refine blk_far ?_ NB203_211.out _; (with_reducible repeat (first | refine blk_drewN ?_ _ | refine blk_drew ?_ | refine blk_alloc ?_ _)); exact BK203.out⟩, ⟨by (with_reducible repeat (first | refine blk_drewN ?_ _ | refine blk_drew ?_ | refine blk_alloc ?_ _)); refine blk_put (cs := #[.int .i64 t207, .slice Ao46 t208.length co46]) ?_ 0 _ rfl; (with_reducible repeat (first | refine blk_drewN ?_ _ | refine blk_drew ?_ | refine blk_alloc ?_ _)); refine blk_put (cs := #[.int .i64 t207, .slice none 0 0]) ?_ 1 _ rfl; (with_reducible repeat (first | refine blk_drewN ?_ _ | refine blk_drew ?_ | refine blk_alloc ?_ _)); refine blk_put (cs := #[.int .i64 0, .slice none 0 0]) ?_ 0 _ rfl; (with_reducible repeat (first | refine blk_drewN ?_ _ | refine blk_drew ?_ | refine blk_alloc ?_ _)); exact BK211.out⟩, ⟨ms HB⟩⟩
    case round =>
     clear H'
     try clear c1
     try clear c2
     try clear p2
     try clear c3
     try clear c4
     try clear c5
     try clear c7
     try clear c8
     try clear c9
     try clear c12
     try clear c14
     try clear c16
     try clear c17
     try clear c20
     try clear c23
     try clear c24
     try clear c27
     try clear c30
     try clear c31
     try clear c34
     try clear c35
     try clear c36
     try clear c42
     try clear c43
     try clear c44
     try clear c47
     try clear c48
     try clear c50
     try clear hcz10_0
     try clear hcz10_1
     try clear hcz18_0
     try clear hcz18_1
     try clear hcz21_0
     try clear hcz21_1
     try clear hcz25_0
     try clear hcz25_1
     try clear hcz28_0
     try clear hcz28_1
     try clear hcz32_0
     try clear hcz32_1
     try clear hcz37_0
     try clear hcz37_1
     try clear hcz45_0
     try clear hcz45_1
     try clear hcz49_0
     try clear hcz49_1
     try clear hcz51_0
     try clear hcz51_1
     try clear hfz10_0
     try clear hfz10_1
     try clear hfz18_0
     try clear hfz18_1
     try clear hfz21_0
     try clear hfz21_1
     try clear hfz25_0
     try clear hfz25_1
     try clear hfz28_0
     try clear hfz28_1
     try clear hfz32_0
     try clear hfz32_1
     try clear hfz37_0
     try clear hfz37_1
     try clear hfz45_0
     try clear hfz45_1
     try clear hfz49_0
     try clear hfz49_1
     try clear hfz51_0
     try clear hfz51_1
     try clear p2
     obtain ⟨x11_2, x50_2, x212001_2, u212001, rfl, rfl, HA, HK2, HO_212001, BK201, BK202, BK203, BK211, HB⟩ := hrel
     cases gk with
     | zero => exact absurd HA.out (by simp [impl_AddScaled.l0])
     | succ k2 =>
      have H := HA.out
      clear HA
      simp only [impl_AddScaled.l0] at H
      by_cases c52 : x50_2 < (l0_1.length : Int)
      ·rw [if_pos c52] at H
       have c52b0 : decide (x50_2 < (l0_1.length : Int)) = true := decide_eq_true c52
       clear c52
       by_cases c53 : 0 ≤ x50_2
       ·rw [if_pos c53] at H
        have c53b0 : decide (0 ≤ x50_2) = true := decide_eq_true c53
        clear c53
        by_cases c54 : x50_2 < (l0_1.length : Int)
        ·rw [if_pos c54] at H
         have c54b0 : decide (x50_2 < (l0_1.length : Int)) = true := decide_eq_true c54
         clear c54
         by_cases c55 : x50_2 < (l2_1.length : Int)
         ·rw [if_pos c55] at H
          have c55b0 : decide (x50_2 < (l2_1.length : Int)) = true := decide_eq_true c55
          clear c55
          replace H := Option.bind_eq_some_iff.mp H
          obtain ⟨⟨t216, t217⟩, A560, H⟩ := H
          replace H : (if x50_2 < (x212001_2.length : Int) then ((some (x212001_2.set (x50_2 : Int).toNat t216 : List Int)).bind fun y218 => (if x11_2 = true then (impl_AddScaled.l0 k2 a1 t217 (l0_1.length : Int) (wrap64 (x50_2 + 1)) a0_0 l0_1 a2_0 l2_1 t212 y218) else (impl_AddScaled.l0 k2 a1 false (l0_1.length : Int) (wrap64 (x50_2 + 1)) a0_0 l0_1 a2_0 l2_1 t212 y218))) else (none)) = some (r1, r2, r3) := H
          have A56 := Aside0.mk A560
          clear A560
          by_cases c57 : x50_2 < (x212001_2.length : Int)
          ·rw [if_pos c57] at H
           have c57b0 : decide (x50_2 < (x212001_2.length : Int)) = true := decide_eq_true c57
           clear c57
           obtain ⟨y218, hy218⟩ : ∃ y_ : List Int, y_ = (x212001_2.set (x50_2 : Int).toNat t216) := ⟨_, rfl⟩
           replace H : (if x11_2 = true then (impl_AddScaled.l0 k2 a1 t217 (l0_1.length : Int) (wrap64 (x50_2 + 1)) a0_0 l0_1 a2_0 l2_1 t212 y218) else (impl_AddScaled.l0 k2 a1 false (l0_1.length : Int) (wrap64 (x50_2 + 1)) a0_0 l0_1 a2_0 l2_1 t212 y218)) = some (r1, r2, r3) := by first | (rw [hy218]; with_reducible exact H) | (have H2_ := (Option.bind_some _ _).symm.trans H; rw [hy218]; with_reducible exact H2_) | (have H2_ := (Option.bind_some _ _).symm.trans H; with_reducible exact H2_) | with_reducible exact H | (rw [hy218]; exact H) | exact H
           have Ny218 := Aside0.mk hy218
           clear hy218
           by_cases c59 : x11_2 = true
           ·subst c59
            have H1 : (impl_AddScaled.l0 k2 a1 t217 (l0_1.length : Int) (wrap64 (x50_2 + 1)) a0_0 l0_1 a2_0 l2_1 t212 y218) = some (r1, r2, r3) := by rw [if_pos rfl] at H; exact H
            clear H
            have H := H1
            clear H1
            have H' := Aside0.mk H
            clear H
            have hnb60 := NB201_202.out
            have hnc60 := NB202_201.out
            have hnb61 := NB201_203.out
            have hnc61 := NB203_201.out
            have hnb62 := NB201_211.out
            have hnc62 := NB211_201.out
            obtain ⟨hcz63_0, hcz63_1⟩ := c2 BK201
            have hfz63_0 := blk_frozen BK201.out 0
            have hfz63_1 := blk_frozen BK201.out 1
            have p214 : 0 ≤ (x50_2 : Int) := of_decide_eq_true (by first | (with_reducible assumption) | assumption)
            have q214 : x50_2 < (l0_1.length : Int) := of_decide_eq_true (by first | (with_reducible assumption) | assumption)
            obtain ⟨ad214, e214, hx214_0⟩ := Kd.at_int HR0_1.out x50_2 p214 q214
            cases e214
            replace hx214_0 := (HB.out.cell (World.block_lt_of_cell? w _ hx214_0)).trans hx214_0
            replace p214 := eq_true p214
            replace q214 := eq_true q214
            have hnb64 := NB202_203.out
            have hnc64 := NB203_202.out
            have hnb65 := NB202_211.out
            have hnc65 := NB211_202.out
            obtain ⟨hcz66_0, hcz66_1⟩ := c2 BK202
            have hfz66_0 := blk_frozen BK202.out 0
            have hfz66_1 := blk_frozen BK202.out 1
            have p215 : 0 ≤ (x50_2 : Int) := of_decide_eq_true (by first | (with_reducible assumption) | assumption)
            have q215 : x50_2 < (l2_1.length : Int) := of_decide_eq_true (by first | (with_reducible assumption) | assumption)
            obtain ⟨ad215, e215, hx215_0⟩ := Kd.at_int HR2_1.out x50_2 p215 q215
            cases e215
            replace hx215_0 := (HB.out.cell (World.block_lt_of_cell? w _ hx215_0)).trans hx215_0
            replace p215 := eq_true p215
            replace q215 := eq_true q215
            go_wp2_with (first | (go_at_call 108; (with_reducible refine (impl_scaled.calls (rd l0_1 x50_2) a1 (rd l2_1 x50_2) t216 t217 _ A56.out).mono ?_); rintro e w' ⟨rfl, ⟨nd, rfl⟩⟩; (try first | exact ⟨rfl, _, World.drewN_drewN _ _ _⟩ | exact ⟨rfl, _, Eq.trans (World.drewN_drewN _ _ _) (congrArg (World.drewN _) (Nat.add_assoc _ _ _))⟩); have hnb67 := NB211_203.out; have hnc67 := NB203_211.out; obtain ⟨hcz68_0, hcz68_1⟩ := c2 BK211; have hfz68_0 := blk_frozen BK211.out 0; have hfz68_1 := blk_frozen BK211.out 1; have p58 : 0 ≤ (x50_2 : Int) := of_decide_eq_true (by first | (with_reducible assumption) | assumption); have q58 : (x50_2 : Int) < ((x212001_2.length : Int) : Int) := of_decide_eq_true (by first | (with_reducible assumption) | assumption); obtain ⟨go58, co58, eo58, gb58, gl58, cl58, HG58⟩ := Kd.R_form HO_212001.out (by omega); (first | cases eo58 | (injection eo58 with ea_ en_ ec_; (first | subst ea_ | (injection ea_ with ea_; subst ea_)); subst ec_; clear en_)); have GB58 := Aside0.mk gb58; have GG58 := Aside0.mk HG58; clear gb58 gl58 HG58; obtain ⟨hx58_0, hf58_0⟩ := Kd.R_celln 0 HO_212001.out (x50_2 : Int) p58 q58; replace p58 := eq_true p58; replace q58 := eq_true q58; obtain ⟨hy69_, hz69_⟩ := Kd.R_celln 0 HO_212001.out (x50_2 : Int) (of_decide_eq_true (by first | (with_reducible assumption) | assumption)) (of_decide_eq_true (by first | (with_reducible assumption) | assumption)); have HP69 := Kd.R_putg HO_212001.out (x50_2 : Int) t216) | ((with_reducible refine gate_store (t := 3) (p := 72) rfl ?_); (try (rw [drewN_self wr]; generalize hq_ : World.drewN wr _ = wr; have n0_ := Aside0.mk (Kd.R_at hq_ HO_212001.out); have n1_ := Aside0.mk (blk_at hq_ BK201.out); have n2_ := Aside0.mk (blk_at hq_ BK202.out); have n3_ := Aside0.mk (blk_at hq_ BK203.out); have n4_ := Aside0.mk (blk_at hq_ BK211.out); have n5_ := Aside0.mk (below_at hq_ HB.out); clear hq_ HO_212001 BK201 BK202 BK203 BK211 HB; have HO_212001 := n0_; have BK201 := n1_; have BK202 := n2_; have BK203 := n3_; have BK211 := n4_; have HB := n5_; clear n0_ n1_ n2_ n3_ n4_ n5_; (try (obtain ⟨hy69_, hz69_⟩ := Kd.R_celln 0 HO_212001.out (x50_2 : Int) (of_decide_eq_true (by first | (with_reducible assumption) | assumption)) (of_decide_eq_true (by first | (with_reducible assumption) | assumption)))); (try (have HP69 := Kd.R_putg HO_212001.out (x50_2 : Int) t216)))); refine store_event (t := 3) (p := 72) (v := ?vo_w70) (w1 := (wr.setCell ⟨go58, (x50_2 : Int).toNat, none⟩ (.int .i64 t216))) ?hg ?ho ?hn ?hr ?_; (case ho => rfl); (case hg => rfl); (case hn => rfl); (case hr => first | (go_simp; done) | (go_simp; rfl)); intro w70 hw; have hg : wr.grownBy w70 (some go58) := (by rw [hw]; exact HP69.2); have hp_ : Kd.R (Kd.int .i64) 3 w70 w.heap.size (fun _ => True) (.slice (some ⟨go58, 0, none⟩) x212001_2.length co58) y218 := (by rw [hw, Ny218.out]; exact HP69.1); clear HP69; have n0_ := Aside0.mk (hp_); have n1_ := Aside0.mk (blk_grown (g := gb201) (o := .cells #[.int .i64 a0_0, .slice (some ad214) l0_1.length c0_1] 36 (0, 0)) (mb BK201) hg (Kd.R_ne HO_212001.out BK201.out (by decide))); have n2_ := Aside0.mk (blk_grown (g := gb202) (o := .cells #[.int .i64 a2_0, .slice (some ad215) l2_1.length c2_1] 36 (0, 0)) (mb BK202) hg (Kd.R_ne HO_212001.out BK202.out (by decide))); have n3_ := Aside0.mk (blk_grown (g := gb203) (o := .cells #[.int .i64 0, .slice none 0 0] 36 (0, 0)) (mb BK203) hg (Kd.R_ne HO_212001.out BK203.out (by decide))); have n4_ := Aside0.mk (blk_grown (g := gb211) (o := .cells #[.int .i64 t212, .slice (some ⟨go58, 0, none⟩) x212001_2.length co58] 36 (0, 0)) (mb BK211) hg (Kd.R_ne HO_212001.out BK211.out (by decide))); have n5_ := Aside0.mk ((by rw [hw]; exact below_set (HB.out) GB58.out : Below w.heap.size w w70)); clear HO_212001 BK201 BK202 BK203 BK211 HB; have HO_212001 := n0_; have BK201 := n1_; have BK202 := n2_; have BK203 := n3_; have BK211 := n4_; have HB := n5_; clear n0_ n1_ n2_ n3_ n4_ n5_; clear hg hw hp_))
            repeat (go_quiet (first | (go_at_call 108; (with_reducible refine (impl_scaled.calls (rd l0_1 x50_2) a1 (rd l2_1 x50_2) t216 t217 _ A56.out).mono ?_); rintro e w' ⟨rfl, ⟨nd, rfl⟩⟩; (try first | exact ⟨rfl, _, World.drewN_drewN _ _ _⟩ | exact ⟨rfl, _, Eq.trans (World.drewN_drewN _ _ _) (congrArg (World.drewN _) (Nat.add_assoc _ _ _))⟩); have hnb67 := NB211_203.out; have hnc67 := NB203_211.out; obtain ⟨hcz68_0, hcz68_1⟩ := c2 BK211; have hfz68_0 := blk_frozen BK211.out 0; have hfz68_1 := blk_frozen BK211.out 1; have p58 : 0 ≤ (x50_2 : Int) := of_decide_eq_true (by first | (with_reducible assumption) | assumption); have q58 : (x50_2 : Int) < ((x212001_2.length : Int) : Int) := of_decide_eq_true (by first | (with_reducible assumption) | assumption); obtain ⟨go58, co58, eo58, gb58, gl58, cl58, HG58⟩ := Kd.R_form HO_212001.out (by omega); (first | cases eo58 | (injection eo58 with ea_ en_ ec_; (first | subst ea_ | (injection ea_ with ea_; subst ea_)); subst ec_; clear en_)); have GB58 := Aside0.mk gb58; have GG58 := Aside0.mk HG58; clear gb58 gl58 HG58; obtain ⟨hx58_0, hf58_0⟩ := Kd.R_celln 0 HO_212001.out (x50_2 : Int) p58 q58; replace p58 := eq_true p58; replace q58 := eq_true q58; obtain ⟨hy69_, hz69_⟩ := Kd.R_celln 0 HO_212001.out (x50_2 : Int) (of_decide_eq_true (by first | (with_reducible assumption) | assumption)) (of_decide_eq_true (by first | (with_reducible assumption) | assumption)); have HP69 := Kd.R_putg HO_212001.out (x50_2 : Int) t216) | ((with_reducible refine gate_store (t := 3) (p := 72) rfl ?_); (try (rw [drewN_self wr]; generalize hq_ : World.drewN wr _ = wr; have n0_ := Aside0.mk (Kd.R_at hq_ HO_212001.out); have n1_ := Aside0.mk (blk_at hq_ BK201.out); have n2_ := Aside0.mk (blk_at hq_ BK202.out); have n3_ := Aside0.mk (blk_at hq_ BK203.out); have n4_ := Aside0.mk (blk_at hq_ BK211.out); have n5_ := Aside0.mk (below_at hq_ HB.out); clear hq_ HO_212001 BK201 BK202 BK203 BK211 HB; have HO_212001 := n0_; have BK201 := n1_; have BK202 := n2_; have BK203 := n3_; have BK211 := n4_; have HB := n5_; clear n0_ n1_ n2_ n3_ n4_ n5_; (try (obtain ⟨hy69_, hz69_⟩ := Kd.R_celln 0 HO_212001.out (x50_2 : Int) (of_decide_eq_true (by first | (with_reducible assumption) | assumption)) (of_decide_eq_true (by first | (with_reducible assumption) | assumption)))); (try (have HP69 := Kd.R_putg HO_212001.out (x50_2 : Int) t216)))); refine store_event (t := 3) (p := 72) (v := ?vo_w70) (w1 := (wr.setCell ⟨go58, (x50_2 : Int).toNat, none⟩ (.int .i64 t216))) ?hg ?ho ?hn ?hr ?_; (case ho => rfl); (case hg => rfl); (case hn => rfl); (case hr => first | (go_simp; done) | (go_simp; rfl)); intro w70 hw; have hg : wr.grownBy w70 (some go58) := (by rw [hw]; exact HP69.2); have hp_ : Kd.R (Kd.int .i64) 3 w70 w.heap.size (fun _ => True) (.slice (some ⟨go58, 0, none⟩) x212001_2.length co58) y218 := (by rw [hw, Ny218.out]; exact HP69.1); clear HP69; have n0_ := Aside0.mk (hp_); have n1_ := Aside0.mk (blk_grown (g := gb201) (o := .cells #[.int .i64 a0_0, .slice (some ad214) l0_1.length c0_1] 36 (0, 0)) (mb BK201) hg (Kd.R_ne HO_212001.out BK201.out (by decide))); have n2_ := Aside0.mk (blk_grown (g := gb202) (o := .cells #[.int .i64 a2_0, .slice (some ad215) l2_1.length c2_1] 36 (0, 0)) (mb BK202) hg (Kd.R_ne HO_212001.out BK202.out (by decide))); have n3_ := Aside0.mk (blk_grown (g := gb203) (o := .cells #[.int .i64 0, .slice none 0 0] 36 (0, 0)) (mb BK203) hg (Kd.R_ne HO_212001.out BK203.out (by decide))); have n4_ := Aside0.mk (blk_grown (g := gb211) (o := .cells #[.int .i64 t212, .slice (some ⟨go58, 0, none⟩) x212001_2.length co58] 36 (0, 0)) (mb BK211) hg (Kd.R_ne HO_212001.out BK211.out (by decide))); have n5_ := Aside0.mk ((by rw [hw]; exact below_set (HB.out) GB58.out : Below w.heap.size w w70)); clear HO_212001 BK201 BK202 BK203 BK211 HB; have HO_212001 := n0_; have BK201 := n1_; have BK202 := n2_; have BK203 := n3_; have BK211 := n4_; have HB := n5_; clear n0_ n1_ n2_ n3_ n4_ n5_; clear hg hw hp_)); try go_wp2_with (first | (go_at_call 108; (with_reducible refine (impl_scaled.calls (rd l0_1 x50_2) a1 (rd l2_1 x50_2) t216 t217 _ A56.out).mono ?_); rintro e w' ⟨rfl, ⟨nd, rfl⟩⟩; (try first | exact ⟨rfl, _, World.drewN_drewN _ _ _⟩ | exact ⟨rfl, _, Eq.trans (World.drewN_drewN _ _ _) (congrArg (World.drewN _) (Nat.add_assoc _ _ _))⟩); have hnb67 := NB211_203.out; have hnc67 := NB203_211.out; obtain ⟨hcz68_0, hcz68_1⟩ := c2 BK211; have hfz68_0 := blk_frozen BK211.out 0; have hfz68_1 := blk_frozen BK211.out 1; have p58 : 0 ≤ (x50_2 : Int) := of_decide_eq_true (by first | (with_reducible assumption) | assumption); have q58 : (x50_2 : Int) < ((x212001_2.length : Int) : Int) := of_decide_eq_true (by first | (with_reducible assumption) | assumption); obtain ⟨go58, co58, eo58, gb58, gl58, cl58, HG58⟩ := Kd.R_form HO_212001.out (by omega); (first | cases eo58 | (injection eo58 with ea_ en_ ec_; (first | subst ea_ | (injection ea_ with ea_; subst ea_)); subst ec_; clear en_)); have GB58 := Aside0.mk gb58; have GG58 := Aside0.mk HG58; clear gb58 gl58 HG58; obtain ⟨hx58_0, hf58_0⟩ := Kd.R_celln 0 HO_212001.out (x50_2 : Int) p58 q58; replace p58 := eq_true p58; replace q58 := eq_true q58; obtain ⟨hy69_, hz69_⟩ := Kd.R_celln 0 HO_212001.out (x50_2 : Int) (of_decide_eq_true (by first | (with_reducible assumption) | assumption)) (of_decide_eq_true (by first | (with_reducible assumption) | assumption)); have HP69 := Kd.R_putg HO_212001.out (x50_2 : Int) t216) | ((with_reducible refine gate_store (t := 3) (p := 72) rfl ?_); (try (rw [drewN_self wr]; generalize hq_ : World.drewN wr _ = wr; have n0_ := Aside0.mk (Kd.R_at hq_ HO_212001.out); have n1_ := Aside0.mk (blk_at hq_ BK201.out); have n2_ := Aside0.mk (blk_at hq_ BK202.out); have n3_ := Aside0.mk (blk_at hq_ BK203.out); have n4_ := Aside0.mk (blk_at hq_ BK211.out); have n5_ := Aside0.mk (below_at hq_ HB.out); clear hq_ HO_212001 BK201 BK202 BK203 BK211 HB; have HO_212001 := n0_; have BK201 := n1_; have BK202 := n2_; have BK203 := n3_; have BK211 := n4_; have HB := n5_; clear n0_ n1_ n2_ n3_ n4_ n5_; (try (obtain ⟨hy69_, hz69_⟩ := Kd.R_celln 0 HO_212001.out (x50_2 : Int) (of_decide_eq_true (by first | (with_reducible assumption) | assumption)) (of_decide_eq_true (by first | (with_reducible assumption) | assumption)))); (try (have HP69 := Kd.R_putg HO_212001.out (x50_2 : Int) t216)))); refine store_event (t := 3) (p := 72) (v := ?vo_w70) (w1 := (wr.setCell ⟨go58, (x50_2 : Int).toNat, none⟩ (.int .i64 t216))) ?hg ?ho ?hn ?hr ?_; (case ho => rfl); (case hg => rfl); (case hn => rfl); (case hr => first | (go_simp; done) | (go_simp; rfl)); intro w70 hw; have hg : wr.grownBy w70 (some go58) := (by rw [hw]; exact HP69.2); have hp_ : Kd.R (Kd.int .i64) 3 w70 w.heap.size (fun _ => True) (.slice (some ⟨go58, 0, none⟩) x212001_2.length co58) y218 := (by rw [hw, Ny218.out]; exact HP69.1); clear HP69; have n0_ := Aside0.mk (hp_); have n1_ := Aside0.mk (blk_grown (g := gb201) (o := .cells #[.int .i64 a0_0, .slice (some ad214) l0_1.length c0_1] 36 (0, 0)) (mb BK201) hg (Kd.R_ne HO_212001.out BK201.out (by decide))); have n2_ := Aside0.mk (blk_grown (g := gb202) (o := .cells #[.int .i64 a2_0, .slice (some ad215) l2_1.length c2_1] 36 (0, 0)) (mb BK202) hg (Kd.R_ne HO_212001.out BK202.out (by decide))); have n3_ := Aside0.mk (blk_grown (g := gb203) (o := .cells #[.int .i64 0, .slice none 0 0] 36 (0, 0)) (mb BK203) hg (Kd.R_ne HO_212001.out BK203.out (by decide))); have n4_ := Aside0.mk (blk_grown (g := gb211) (o := .cells #[.int .i64 t212, .slice (some ⟨go58, 0, none⟩) x212001_2.length co58] 36 (0, 0)) (mb BK211) hg (Kd.R_ne HO_212001.out BK211.out (by decide))); have n5_ := Aside0.mk ((by rw [hw]; exact below_set (HB.out) GB58.out : Below w.heap.size w w70)); clear HO_212001 BK201 BK202 BK203 BK211 HB; have HO_212001 := n0_; have BK201 := n1_; have BK202 := n2_; have BK203 := n3_; have BK211 := n4_; have HB := n5_; clear n0_ n1_ n2_ n3_ n4_ n5_; clear hg hw hp_)))
            go_roundg k2
            case measure => have := HJ3.out; have := HK2.out; omega
            case rel => exact ⟨(t217), (wrap64 (x50_2 + 1)), (y218), (.slice (some ⟨go58, 0, none⟩) x212001_2.length co58), (by first | rfl | (simp; done) | (simp [*]; done)), (by first | rfl | (simp; done) | (simp [*]; done)), H', ⟨by have := HJ3.out; have := HK2.out; omega⟩, ⟨by (with_reducible repeat (first | apply Kd.R_alloc | apply Kd.R_drewN | apply Kd.R_drew)); exact HO_212001.out⟩, ⟨mb BK201⟩, ⟨mb BK202⟩, ⟨mb BK203⟩, ⟨mb BK211⟩, ⟨ms HB⟩⟩
           ·replace c59 := Bool.eq_false_iff.mpr c59
            subst c59
            have H1 : (impl_AddScaled.l0 k2 a1 false (l0_1.length : Int) (wrap64 (x50_2 + 1)) a0_0 l0_1 a2_0 l2_1 t212 y218) = some (r1, r2, r3) := by rw [if_neg (show ¬ (false = true) by decide)] at H; exact H
            clear H
            have H := H1
            clear H1
            have H' := Aside0.mk H
            clear H
            have hnb71 := NB201_202.out
            have hnc71 := NB202_201.out
            have hnb72 := NB201_203.out
            have hnc72 := NB203_201.out
            have hnb73 := NB201_211.out
            have hnc73 := NB211_201.out
            obtain ⟨hcz74_0, hcz74_1⟩ := c2 BK201
            have hfz74_0 := blk_frozen BK201.out 0
            have hfz74_1 := blk_frozen BK201.out 1
            have p214 : 0 ≤ (x50_2 : Int) := of_decide_eq_true (by first | (with_reducible assumption) | assumption)
            have q214 : x50_2 < (l0_1.length : Int) := of_decide_eq_true (by first | (with_reducible assumption) | assumption)
            obtain ⟨ad214, e214, hx214_0⟩ := Kd.at_int HR0_1.out x50_2 p214 q214
            cases e214
            replace hx214_0 := (HB.out.cell (World.block_lt_of_cell? w _ hx214_0)).trans hx214_0
            replace p214 := eq_true p214
            replace q214 := eq_true q214
            have hnb75 := NB202_203.out
            have hnc75 := NB203_202.out
            have hnb76 := NB202_211.out
            have hnc76 := NB211_202.out
            obtain ⟨hcz77_0, hcz77_1⟩ := c2 BK202
            have hfz77_0 := blk_frozen BK202.out 0
            have hfz77_1 := blk_frozen BK202.out 1
            have p215 : 0 ≤ (x50_2 : Int) := of_decide_eq_true (by first | (with_reducible assumption) | assumption)
            have q215 : x50_2 < (l2_1.length : Int) := of_decide_eq_true (by first | (with_reducible assumption) | assumption)
            obtain ⟨ad215, e215, hx215_0⟩ := Kd.at_int HR2_1.out x50_2 p215 q215
            cases e215
            replace hx215_0 := (HB.out.cell (World.block_lt_of_cell? w _ hx215_0)).trans hx215_0
            replace p215 := eq_true p215
            replace q215 := eq_true q215
            go_wp2_with (first | (go_at_call 108; (with_reducible refine (impl_scaled.calls (rd l0_1 x50_2) a1 (rd l2_1 x50_2) t216 t217 _ A56.out).mono ?_); rintro e w' ⟨rfl, ⟨nd, rfl⟩⟩; (try first | exact ⟨rfl, _, World.drewN_drewN _ _ _⟩ | exact ⟨rfl, _, Eq.trans (World.drewN_drewN _ _ _) (congrArg (World.drewN _) (Nat.add_assoc _ _ _))⟩); have hnb78 := NB211_203.out; have hnc78 := NB203_211.out; obtain ⟨hcz79_0, hcz79_1⟩ := c2 BK211; have hfz79_0 := blk_frozen BK211.out 0; have hfz79_1 := blk_frozen BK211.out 1; have p58 : 0 ≤ (x50_2 : Int) := of_decide_eq_true (by first | (with_reducible assumption) | assumption); have q58 : (x50_2 : Int) < ((x212001_2.length : Int) : Int) := of_decide_eq_true (by first | (with_reducible assumption) | assumption); obtain ⟨go58, co58, eo58, gb58, gl58, cl58, HG58⟩ := Kd.R_form HO_212001.out (by omega); (first | cases eo58 | (injection eo58 with ea_ en_ ec_; (first | subst ea_ | (injection ea_ with ea_; subst ea_)); subst ec_; clear en_)); have GB58 := Aside0.mk gb58; have GG58 := Aside0.mk HG58; clear gb58 gl58 HG58; obtain ⟨hx58_0, hf58_0⟩ := Kd.R_celln 0 HO_212001.out (x50_2 : Int) p58 q58; replace p58 := eq_true p58; replace q58 := eq_true q58; obtain ⟨hy80_, hz80_⟩ := Kd.R_celln 0 HO_212001.out (x50_2 : Int) (of_decide_eq_true (by first | (with_reducible assumption) | assumption)) (of_decide_eq_true (by first | (with_reducible assumption) | assumption)); have HP80 := Kd.R_putg HO_212001.out (x50_2 : Int) t216) | ((with_reducible refine gate_store (t := 3) (p := 72) rfl ?_); (try (rw [drewN_self wr]; generalize hq_ : World.drewN wr _ = wr; have n0_ := Aside0.mk (Kd.R_at hq_ HO_212001.out); have n1_ := Aside0.mk (blk_at hq_ BK201.out); have n2_ := Aside0.mk (blk_at hq_ BK202.out); have n3_ := Aside0.mk (blk_at hq_ BK203.out); have n4_ := Aside0.mk (blk_at hq_ BK211.out); have n5_ := Aside0.mk (below_at hq_ HB.out); clear hq_ HO_212001 BK201 BK202 BK203 BK211 HB; have HO_212001 := n0_; have BK201 := n1_; have BK202 := n2_; have BK203 := n3_; have BK211 := n4_; have HB := n5_; clear n0_ n1_ n2_ n3_ n4_ n5_; (try (obtain ⟨hy80_, hz80_⟩ := Kd.R_celln 0 HO_212001.out (x50_2 : Int) (of_decide_eq_true (by first | (with_reducible assumption) | assumption)) (of_decide_eq_true (by first | (with_reducible assumption) | assumption)))); (try (have HP80 := Kd.R_putg HO_212001.out (x50_2 : Int) t216)))); refine store_event (t := 3) (p := 72) (v := ?vo_w81) (w1 := (wr.setCell ⟨go58, (x50_2 : Int).toNat, none⟩ (.int .i64 t216))) ?hg ?ho ?hn ?hr ?_; (case ho => rfl); (case hg => rfl); (case hn => rfl); (case hr => first | (go_simp; done) | (go_simp; rfl)); intro w81 hw; have hg : wr.grownBy w81 (some go58) := (by rw [hw]; exact HP80.2); have hp_ : Kd.R (Kd.int .i64) 3 w81 w.heap.size (fun _ => True) (.slice (some ⟨go58, 0, none⟩) x212001_2.length co58) y218 := (by rw [hw, Ny218.out]; exact HP80.1); clear HP80; have n0_ := Aside0.mk (hp_); have n1_ := Aside0.mk (blk_grown (g := gb201) (o := .cells #[.int .i64 a0_0, .slice (some ad214) l0_1.length c0_1] 36 (0, 0)) (mb BK201) hg (Kd.R_ne HO_212001.out BK201.out (by decide))); have n2_ := Aside0.mk (blk_grown (g := gb202) (o := .cells #[.int .i64 a2_0, .slice (some ad215) l2_1.length c2_1] 36 (0, 0)) (mb BK202) hg (Kd.R_ne HO_212001.out BK202.out (by decide))); have n3_ := Aside0.mk (blk_grown (g := gb203) (o := .cells #[.int .i64 0, .slice none 0 0] 36 (0, 0)) (mb BK203) hg (Kd.R_ne HO_212001.out BK203.out (by decide))); have n4_ := Aside0.mk (blk_grown (g := gb211) (o := .cells #[.int .i64 t212, .slice (some ⟨go58, 0, none⟩) x212001_2.length co58] 36 (0, 0)) (mb BK211) hg (Kd.R_ne HO_212001.out BK211.out (by decide))); have n5_ := Aside0.mk ((by rw [hw]; exact below_set (HB.out) GB58.out : Below w.heap.size w w81)); clear HO_212001 BK201 BK202 BK203 BK211 HB; have HO_212001 := n0_; have BK201 := n1_; have BK202 := n2_; have BK203 := n3_; have BK211 := n4_; have HB := n5_; clear n0_ n1_ n2_ n3_ n4_ n5_; clear hg hw hp_))
            repeat (go_quiet (first | (go_at_call 108; (with_reducible refine (impl_scaled.calls (rd l0_1 x50_2) a1 (rd l2_1 x50_2) t216 t217 _ A56.out).mono ?_); rintro e w' ⟨rfl, ⟨nd, rfl⟩⟩; (try first | exact ⟨rfl, _, World.drewN_drewN _ _ _⟩ | exact ⟨rfl, _, Eq.trans (World.drewN_drewN _ _ _) (congrArg (World.drewN _) (Nat.add_assoc _ _ _))⟩); have hnb78 := NB211_203.out; have hnc78 := NB203_211.out; obtain ⟨hcz79_0, hcz79_1⟩ := c2 BK211; have hfz79_0 := blk_frozen BK211.out 0; have hfz79_1 := blk_frozen BK211.out 1; have p58 : 0 ≤ (x50_2 : Int) := of_decide_eq_true (by first | (with_reducible assumption) | assumption); have q58 : (x50_2 : Int) < ((x212001_2.length : Int) : Int) := of_decide_eq_true (by first | (with_reducible assumption) | assumption); obtain ⟨go58, co58, eo58, gb58, gl58, cl58, HG58⟩ := Kd.R_form HO_212001.out (by omega); (first | cases eo58 | (injection eo58 with ea_ en_ ec_; (first | subst ea_ | (injection ea_ with ea_; subst ea_)); subst ec_; clear en_)); have GB58 := Aside0.mk gb58; have GG58 := Aside0.mk HG58; clear gb58 gl58 HG58; obtain ⟨hx58_0, hf58_0⟩ := Kd.R_celln 0 HO_212001.out (x50_2 : Int) p58 q58; replace p58 := eq_true p58; replace q58 := eq_true q58; obtain ⟨hy80_, hz80_⟩ := Kd.R_celln 0 HO_212001.out (x50_2 : Int) (of_decide_eq_true (by first | (with_reducible assumption) | assumption)) (of_decide_eq_true (by first | (with_reducible assumption) | assumption)); have HP80 := Kd.R_putg HO_212001.out (x50_2 : Int) t216) | ((with_reducible refine gate_store (t := 3) (p := 72) rfl ?_); (try (rw [drewN_self wr]; generalize hq_ : World.drewN wr _ = wr; have n0_ := Aside0.mk (Kd.R_at hq_ HO_212001.out); have n1_ := Aside0.mk (blk_at hq_ BK201.out); have n2_ := Aside0.mk (blk_at hq_ BK202.out); have n3_ := Aside0.mk (blk_at hq_ BK203.out); have n4_ := Aside0.mk (blk_at hq_ BK211.out); have n5_ := Aside0.mk (below_at hq_ HB.out); clear hq_ HO_212001 BK201 BK202 BK203 BK211 HB; have HO_212001 := n0_; have BK201 := n1_; have BK202 := n2_; have BK203 := n3_; have BK211 := n4_; have HB := n5_; clear n0_ n1_ n2_ n3_ n4_ n5_; (try (obtain ⟨hy80_, hz80_⟩ := Kd.R_celln 0 HO_212001.out (x50_2 : Int) (of_decide_eq_true (by first | (with_reducible assumption) | assumption)) (of_decide_eq_true (by first | (with_reducible assumption) | assumption)))); (try (have HP80 := Kd.R_putg HO_212001.out (x50_2 : Int) t216)))); refine store_event (t := 3) (p := 72) (v := ?vo_w81) (w1 := (wr.setCell ⟨go58, (x50_2 : Int).toNat, none⟩ (.int .i64 t216))) ?hg ?ho ?hn ?hr ?_; (case ho => rfl); (case hg => rfl); (case hn => rfl); (case hr => first | (go_simp; done) | (go_simp; rfl)); intro w81 hw; have hg : wr.grownBy w81 (some go58) := (by rw [hw]; exact HP80.2); have hp_ : Kd.R (Kd.int .i64) 3 w81 w.heap.size (fun _ => True) (.slice (some ⟨go58, 0, none⟩) x212001_2.length co58) y218 := (by rw [hw, Ny218.out]; exact HP80.1); clear HP80; have n0_ := Aside0.mk (hp_); have n1_ := Aside0.mk (blk_grown (g := gb201) (o := .cells #[.int .i64 a0_0, .slice (some ad214) l0_1.length c0_1] 36 (0, 0)) (mb BK201) hg (Kd.R_ne HO_212001.out BK201.out (by decide))); have n2_ := Aside0.mk (blk_grown (g := gb202) (o := .cells #[.int .i64 a2_0, .slice (some ad215) l2_1.length c2_1] 36 (0, 0)) (mb BK202) hg (Kd.R_ne HO_212001.out BK202.out (by decide))); have n3_ := Aside0.mk (blk_grown (g := gb203) (o := .cells #[.int .i64 0, .slice none 0 0] 36 (0, 0)) (mb BK203) hg (Kd.R_ne HO_212001.out BK203.out (by decide))); have n4_ := Aside0.mk (blk_grown (g := gb211) (o := .cells #[.int .i64 t212, .slice (some ⟨go58, 0, none⟩) x212001_2.length co58] 36 (0, 0)) (mb BK211) hg (Kd.R_ne HO_212001.out BK211.out (by decide))); have n5_ := Aside0.mk ((by rw [hw]; exact below_set (HB.out) GB58.out : Below w.heap.size w w81)); clear HO_212001 BK201 BK202 BK203 BK211 HB; have HO_212001 := n0_; have BK201 := n1_; have BK202 := n2_; have BK203 := n3_; have BK211 := n4_; have HB := n5_; clear n0_ n1_ n2_ n3_ n4_ n5_; clear hg hw hp_)); try go_wp2_with (first | (go_at_call 108; (with_reducible refine (impl_scaled.calls (rd l0_1 x50_2) a1 (rd l2_1 x50_2) t216 t217 _ A56.out).mono ?_); rintro e w' ⟨rfl, ⟨nd, rfl⟩⟩; (try first | exact ⟨rfl, _, World.drewN_drewN _ _ _⟩ | exact ⟨rfl, _, Eq.trans (World.drewN_drewN _ _ _) (congrArg (World.drewN _) (Nat.add_assoc _ _ _))⟩); have hnb78 := NB211_203.out; have hnc78 := NB203_211.out; obtain ⟨hcz79_0, hcz79_1⟩ := c2 BK211; have hfz79_0 := blk_frozen BK211.out 0; have hfz79_1 := blk_frozen BK211.out 1; have p58 : 0 ≤ (x50_2 : Int) := of_decide_eq_true (by first | (with_reducible assumption) | assumption); have q58 : (x50_2 : Int) < ((x212001_2.length : Int) : Int) := of_decide_eq_true (by first | (with_reducible assumption) | assumption); obtain ⟨go58, co58, eo58, gb58, gl58, cl58, HG58⟩ := Kd.R_form HO_212001.out (by omega); (first | cases eo58 | (injection eo58 with ea_ en_ ec_; (first | subst ea_ | (injection ea_ with ea_; subst ea_)); subst ec_; clear en_)); have GB58 := Aside0.mk gb58; have GG58 := Aside0.mk HG58; clear gb58 gl58 HG58; obtain ⟨hx58_0, hf58_0⟩ := Kd.R_celln 0 HO_212001.out (x50_2 : Int) p58 q58; replace p58 := eq_true p58; replace q58 := eq_true q58; obtain ⟨hy80_, hz80_⟩ := Kd.R_celln 0 HO_212001.out (x50_2 : Int) (of_decide_eq_true (by first | (with_reducible assumption) | assumption)) (of_decide_eq_true (by first | (with_reducible assumption) | assumption)); have HP80 := Kd.R_putg HO_212001.out (x50_2 : Int) t216) | ((with_reducible refine gate_store (t := 3) (p := 72) rfl ?_); (try (rw [drewN_self wr]; generalize hq_ : World.drewN wr _ = wr; have n0_ := Aside0.mk (Kd.R_at hq_ HO_212001.out); have n1_ := Aside0.mk (blk_at hq_ BK201.out); have n2_ := Aside0.mk (blk_at hq_ BK202.out); have n3_ := Aside0.mk (blk_at hq_ BK203.out); have n4_ := Aside0.mk (blk_at hq_ BK211.out); have n5_ := Aside0.mk (below_at hq_ HB.out); clear hq_ HO_212001 BK201 BK202 BK203 BK211 HB; have HO_212001 := n0_; have BK201 := n1_; have BK202 := n2_; have BK203 := n3_; have BK211 := n4_; have HB := n5_; clear n0_ n1_ n2_ n3_ n4_ n5_; (try (obtain ⟨hy80_, hz80_⟩ := Kd.R_celln 0 HO_212001.out (x50_2 : Int) (of_decide_eq_true (by first | (with_reducible assumption) | assumption)) (of_decide_eq_true (by first | (with_reducible assumption) | assumption)))); (try (have HP80 := Kd.R_putg HO_212001.out (x50_2 : Int) t216)))); refine store_event (t := 3) (p := 72) (v := ?vo_w81) (w1 := (wr.setCell ⟨go58, (x50_2 : Int).toNat, none⟩ (.int .i64 t216))) ?hg ?ho ?hn ?hr ?_; (case ho => rfl); (case hg => rfl); (case hn => rfl); (case hr => first | (go_simp; done) | (go_simp; rfl)); intro w81 hw; have hg : wr.grownBy w81 (some go58) := (by rw [hw]; exact HP80.2); have hp_ : Kd.R (Kd.int .i64) 3 w81 w.heap.size (fun _ => True) (.slice (some ⟨go58, 0, none⟩) x212001_2.length co58) y218 := (by rw [hw, Ny218.out]; exact HP80.1); clear HP80; have n0_ := Aside0.mk (hp_); have n1_ := Aside0.mk (blk_grown (g := gb201) (o := .cells #[.int .i64 a0_0, .slice (some ad214) l0_1.length c0_1] 36 (0, 0)) (mb BK201) hg (Kd.R_ne HO_212001.out BK201.out (by decide))); have n2_ := Aside0.mk (blk_grown (g := gb202) (o := .cells #[.int .i64 a2_0, .slice (some ad215) l2_1.length c2_1] 36 (0, 0)) (mb BK202) hg (Kd.R_ne HO_212001.out BK202.out (by decide))); have n3_ := Aside0.mk (blk_grown (g := gb203) (o := .cells #[.int .i64 0, .slice none 0 0] 36 (0, 0)) (mb BK203) hg (Kd.R_ne HO_212001.out BK203.out (by decide))); have n4_ := Aside0.mk (blk_grown (g := gb211) (o := .cells #[.int .i64 t212, .slice (some ⟨go58, 0, none⟩) x212001_2.length co58] 36 (0, 0)) (mb BK211) hg (Kd.R_ne HO_212001.out BK211.out (by decide))); have n5_ := Aside0.mk ((by rw [hw]; exact below_set (HB.out) GB58.out : Below w.heap.size w w81)); clear HO_212001 BK201 BK202 BK203 BK211 HB; have HO_212001 := n0_; have BK201 := n1_; have BK202 := n2_; have BK203 := n3_; have BK211 := n4_; have HB := n5_; clear n0_ n1_ n2_ n3_ n4_ n5_; clear hg hw hp_)))
            go_roundg k2
            case measure => have := HJ3.out; have := HK2.out; omega
            case rel => exact ⟨(false), (wrap64 (x50_2 + 1)), (y218), (.slice (some ⟨go58, 0, none⟩) x212001_2.length co58), (by first | rfl | (simp; done) | (simp [*]; done)), (by first | rfl | (simp; done) | (simp [*]; done)), H', ⟨by have := HJ3.out; have := HK2.out; omega⟩, ⟨by (with_reducible repeat (first | apply Kd.R_alloc | apply Kd.R_drewN | apply Kd.R_drew)); exact HO_212001.out⟩, ⟨mb BK201⟩, ⟨mb BK202⟩, ⟨mb BK203⟩, ⟨mb BK211⟩, ⟨ms HB⟩⟩
          ·rw [if_neg c57] at H
           exact absurd H (by simp)
         ·rw [if_neg c55] at H
          exact absurd H (by simp)
        ·rw [if_neg c54] at H
         exact absurd H (by simp)
       ·rw [if_neg c53] at H
        exact absurd H (by simp)
      ·rw [if_neg c52] at H
       have c52b0 : decide (x50_2 < (l0_1.length : Int)) = false := decide_eq_false c52
       clear c52
       by_cases c82 : x11_2 = true
       ·subst c82
        have H1 : (some (t212, x212001_2, true)) = some (r1, r2, r3) := by rw [if_pos rfl] at H; exact H
        clear H
        have H := H1
        clear H1
        simp only [Option.some.injEq, Prod.mk.injEq] at H
        obtain ⟨rfl, rfl, rfl⟩ := H
        have hnb83 := NB211_201.out
        have hnc83 := NB201_211.out
        have hnb84 := NB211_202.out
        have hnc84 := NB202_211.out
        have hnb85 := NB211_203.out
        have hnc85 := NB203_211.out
        obtain ⟨hcz86_0, hcz86_1⟩ := c2 BK211
        have hfz86_0 := blk_frozen BK211.out 0
        have hfz86_1 := blk_frozen BK211.out 1
        have hnb87 := NB203_201.out
        have hnc87 := NB201_203.out
        have hnb88 := NB203_202.out
        have hnc88 := NB202_203.out
        obtain ⟨hcz89_0, hcz89_1⟩ := c2 BK203
        have hfz89_0 := blk_frozen BK203.out 0
        have hfz89_1 := blk_frozen BK203.out 1
        obtain ⟨Ao90, co90, eo90⟩ := Kd.R_slice HO_212001.out
        subst eo90
        go_wp2
        repeat (go_quiet (fail); try go_wp2)
        refine bodyPost_ret (results_ct rfl _ _ gb203 36 #[.int .i64 t212, .slice Ao90 x212001_2.length co90] (0, 0) _ rfl (by (with_reducible repeat (first | refine blk_drewN ?_ _ | refine blk_drew ?_ | refine blk_alloc ?_ _)); refine blk_put (cs := #[.int .i64 t212, .slice none 0 0]) ?_ 1 _ rfl; (with_reducible repeat (first | refine blk_drewN ?_ _ | refine blk_drew ?_ | refine blk_alloc ?_ _)); refine blk_put (cs := #[.int .i64 0, .slice none 0 0]) ?_ 0 _ rfl; (with_reducible repeat (first | refine blk_drewN ?_ _ | refine blk_drew ?_ | refine blk_alloc ?_ _)); exact BK203.out) Try.underlying36 rfl (by kernel_rfl)) rfl ?_
        exact ⟨_, by first | rfl | (simp [errW_none, errW_some] <;> rfl) | (simp [*, errW_none, errW_some] <;> rfl), by (with_reducible repeat (first | apply Kd.R_alloc | apply Kd.R_drewN | apply Kd.R_drew)); exact Kd.R_mono (Kd.R_far (p := ⟨gb203, 1, none⟩) (Kd.R_far (p := ⟨gb203, 0, none⟩) (Kd.R_types HO_212001.out BK203.out (by decide)) (fun _ hk => hk.2) (.int .i64 t212)) (fun _ hk => hk.2) (.slice Ao90 x212001_2.length co90)) (fun _ hk => trivial), ms HB⟩
       ·replace c82 := Bool.eq_false_iff.mpr c82
        subst c82
        have H1 : (some (0, ([] : List Int), false)) = some (r1, r2, r3) := by rw [if_neg (show ¬ (false = true) by decide)] at H; exact H
        clear H
        have H := H1
        clear H1
        simp only [Option.some.injEq, Prod.mk.injEq] at H
        obtain ⟨rfl, rfl, rfl⟩ := H
        have hnb91 := NB203_201.out
        have hnc91 := NB201_203.out
        have hnb92 := NB203_202.out
        have hnc92 := NB202_203.out
        have hnb93 := NB203_211.out
        have hnc93 := NB211_203.out
        obtain ⟨hcz94_0, hcz94_1⟩ := c2 BK203
        have hfz94_0 := blk_frozen BK203.out 0
        have hfz94_1 := blk_frozen BK203.out 1
        go_wp2
        repeat (go_quiet (fail); try go_wp2)
        refine bodyPost_ret (results_ct rfl _ _ gb203 36 #[.int .i64 0, .slice none 0 0] (0, 0) _ rfl (by (with_reducible repeat (first | refine blk_drewN ?_ _ | refine blk_drew ?_ | refine blk_alloc ?_ _)); refine blk_put (cs := #[.int .i64 0, .slice none 0 0]) ?_ 1 _ rfl; (with_reducible repeat (first | refine blk_drewN ?_ _ | refine blk_drew ?_ | refine blk_alloc ?_ _)); refine blk_put (cs := #[.int .i64 0, .slice none 0 0]) ?_ 0 _ rfl; (with_reducible repeat (first | refine blk_drewN ?_ _ | refine blk_drew ?_ | refine blk_alloc ?_ _)); exact BK203.out) Try.underlying36 rfl (by kernel_rfl)) rfl ?_
        exact ⟨_, by first | rfl | (simp [errW_none, errW_some] <;> rfl) | (simp [*, errW_none, errW_some] <;> rfl), by first | exact Kd.R_nil _ _ _ _ _ | exact Kd.N_nil _ _ _ _ _ | exact Kd.V_nil _ _ _ _ _ | exact Kd.Q_nil _ _ _ _ _ | exact Kd.S_nil _ _ _ _ _, ms HB⟩

/-! ### impl_CombineRows_1: function 72 -/
def impl_CombineRows_1.f (a0 : Int) : Option (Bool) := (impl_within.f a0 0 1000000000).bind fun t219 => (some (!t219))
set_option maxHeartbeats 8000000 in
set_option maxRecDepth 100000 in
theorem impl_CombineRows_1.calls (a0 : Int) (r : Bool) (w : World) (h : impl_CombineRows_1.f a0 = some r) :
  Calls Try.prog 72 #[.int .i64 a0] w fun e w' => e = .returned (.bool r) ∧ Drawn0 w w' := by
 have H : ((impl_within.f a0 0 1000000000).bind fun t219 => (some (!t219))) = some r := h
 clear h
 replace H := Option.bind_eq_some_iff.mp H
 obtain ⟨t219, A20, H⟩ := H
 replace H : (some (!t219)) = some r := H
 have A2 := Aside0.mk A20
 clear A20
 obtain rfl := Option.some.inj H
 go_enter Try.func72, Try.ntmps72
 go_wp2_with (first | ((with_reducible refine gate_callee (f := 73) rfl ?_); refine gl (some 4) rfl rfl Try.func73 (by kernel_rfl) rfl #[.int .i64 a0, .int .i64 0, .int .i64 1000000000] rfl ?_; (with_reducible refine (impl_within.calls a0 0 1000000000 t219 _ A2.out).mono ?_); rintro e w' ⟨rfl, ⟨nd, rfl⟩⟩; refine ⟨_, rfl, ?_⟩))
 go_ret
 exact ⟨by first | rfl | (simp; done) | (simp [*]; done), by repeat (first | exact Drawn0.refl _ | apply Drawn0.step)⟩

/-! ### slices_IndexFunc_int_int__CombineRows_1: function 106 -/
def slices_IndexFunc_int_int__CombineRows_1.l0 : Nat → List Int → Int → Int → Option (Int)
 | 0, _, _, _ => none
 | k + 1, x0, x7, x8 => if x8 < x7 then (if 0 ≤ x8 then (if x8 < (x0.length : Int) then ((impl_CombineRows_1.f (rd x0 x8)).bind fun t221 => (if t221 = true then (some x8) else (slices_IndexFunc_int_int__CombineRows_1.l0 k x0 x7 (wrap64 (x8 + 1))))) else (none)) else (none)) else (some (-1))
def slices_IndexFunc_int_int__CombineRows_1.f (k : Nat) (l0 : List Int) (a1 : Unit) : Option (Int) := slices_IndexFunc_int_int__CombineRows_1.l0 k l0 (l0.length : Int) 0
theorem slices_IndexFunc_int_int__CombineRows_1.mono_l : ∀ k, (∀ y0 y1 y2, LeO (slices_IndexFunc_int_int__CombineRows_1.l0 k y0 y1 y2) (slices_IndexFunc_int_int__CombineRows_1.l0 (k + 1) y0 y1 y2))
 | 0 => fun _ _ _ r h => by simp [slices_IndexFunc_int_int__CombineRows_1.l0] at h
 | k + 1 => by
  have ih0 := slices_IndexFunc_int_int__CombineRows_1.mono_l k
  ·intro y0 y1 y2
   unfold slices_IndexFunc_int_int__CombineRows_1.l0
   repeat' first
   | (with_reducible exact ih0 _ _ _)
   | (with_reducible exact LeO.refl _)
   | (with_reducible exact LeO.none _)
   | (with_reducible refine LeO.ite ?_ ?_)
   | (with_reducible refine LeO.bind ?_ (fun _ => ?_))
   | exact ih0 _ _ _
   | exact LeO.none _
   | refine LeO.ite ?_ ?_
   | refine LeO.bind ?_ (fun _ => ?_)
theorem slices_IndexFunc_int_int__CombineRows_1.mono : ∀ a0 a1 k, LeO (slices_IndexFunc_int_int__CombineRows_1.f k a0 a1) (slices_IndexFunc_int_int__CombineRows_1.f (k + 1) a0 a1) := by
 intro a0 a1 k
 have ih0 := slices_IndexFunc_int_int__CombineRows_1.mono_l k
 unfold slices_IndexFunc_int_int__CombineRows_1.f
 repeat' first
   | (with_reducible exact ih0 _ _ _)
   | (with_reducible exact LeO.refl _)
   | (with_reducible exact LeO.none _)
   | (with_reducible refine LeO.ite ?_ ?_)
   | (with_reducible refine LeO.bind ?_ (fun _ => ?_))
   | exact ih0 _ _ _
   | exact LeO.none _
   | refine LeO.ite ?_ ?_
   | refine LeO.bind ?_ (fun _ => ?_)
set_option maxHeartbeats 8000000 in
set_option maxRecDepth 100000 in
theorem slices_IndexFunc_int_int__CombineRows_1.calls (k : Nat) (A0 : Option Addr) (c0 : Nat) (l0 : List Int) (a1 : Unit) (r : Int) (w : World) (hr0 : Kd.C (Kd.int .i64) w A0 l0.length l0) (hc0 : l0.length ≤ c0) (h : slices_IndexFunc_int_int__CombineRows_1.f k l0 a1 = some r) :
  Calls Try.prog 106 #[.slice A0 l0.length c0, .func (.func 72) #[] #[]] w fun e w' => e = .returned (.int .i64 r) ∧ Drawn0 w w' := by
 have HR0 := Aside0.mk hr0
 have HC0 := Aside0.mk hc0
 clear hr0 hc0
 have H : (slices_IndexFunc_int_int__CombineRows_1.l0 k l0 (l0.length : Int) 0) = some r := h
 clear h
 have H' := Aside0.mk H
 clear H
 go_enter Try.func106, Try.ntmps106
 go_wp2
 go_loopg [8] k (fun kq v8 w' => ∃ (x8_1 : Int), v8 = .int .i64 x8_1 ∧ Aside0 (slices_IndexFunc_int_int__CombineRows_1.l0 kq l0 (l0.length : Int) x8_1 = some r) ∧ Aside0 (kq ≤ k) ∧ Drawn0 w w')
 case atStart => exact ⟨(0), (by first | rfl | (simp; done) | (simp [*]; done)), H', ⟨Nat.le_refl _⟩, by repeat (first | exact Drawn0.refl _ | apply Drawn0.step)⟩
 case round =>
  clear H'
  try clear p2
  obtain ⟨x8_1, rfl, HA, HK1, ⟨m1, rfl⟩⟩ := hrel
  cases gk with
  | zero => exact absurd HA.out (by simp [slices_IndexFunc_int_int__CombineRows_1.l0])
  | succ k1 =>
   have H := HA.out
   clear HA
   simp only [slices_IndexFunc_int_int__CombineRows_1.l0] at H
   by_cases c3 : x8_1 < (l0.length : Int)
   ·rw [if_pos c3] at H
    have c3b0 : decide (x8_1 < (l0.length : Int)) = true := decide_eq_true c3
    clear c3
    by_cases c4 : 0 ≤ x8_1
    ·rw [if_pos c4] at H
     have c4b0 : decide (0 ≤ x8_1) = true := decide_eq_true c4
     clear c4
     by_cases c5 : x8_1 < (l0.length : Int)
     ·rw [if_pos c5] at H
      have c5b0 : decide (x8_1 < (l0.length : Int)) = true := decide_eq_true c5
      clear c5
      replace H := Option.bind_eq_some_iff.mp H
      obtain ⟨t221, A60, H⟩ := H
      replace H : (if t221 = true then (some x8_1) else (slices_IndexFunc_int_int__CombineRows_1.l0 k1 l0 (l0.length : Int) (wrap64 (x8_1 + 1)))) = some r := H
      have A6 := Aside0.mk A60
      clear A60
      by_cases c7 : t221 = true
      ·subst c7
       have H1 : (some x8_1) = some r := by rw [if_pos rfl] at H; exact H
       clear H
       have H := H1
       clear H1
       obtain rfl := Option.some.inj H
       have p220 : 0 ≤ (x8_1 : Int) := of_decide_eq_true (by first | (with_reducible assumption) | assumption)
       have q220 : x8_1 < (l0.length : Int) := of_decide_eq_true (by first | (with_reducible assumption) | assumption)
       obtain ⟨ad220, e220, hx220_0⟩ := Kd.at_int HR0.out x8_1 p220 q220
       cases e220
       replace p220 := eq_true p220
       replace q220 := eq_true q220
       go_wp2_with (first | (go_at_call 72; (with_reducible refine (impl_CombineRows_1.calls (rd l0 x8_1) true _ A6.out).mono ?_); rintro e w' ⟨rfl, ⟨nd, rfl⟩⟩))
       go_ret
       exact ⟨by first | rfl | (simp; done) | (simp [*]; done), by repeat (first | exact Drawn0.refl _ | apply Drawn0.step)⟩
      ·replace c7 := Bool.eq_false_iff.mpr c7
       subst c7
       have H1 : (slices_IndexFunc_int_int__CombineRows_1.l0 k1 l0 (l0.length : Int) (wrap64 (x8_1 + 1))) = some r := by rw [if_neg (show ¬ (false = true) by decide)] at H; exact H
       clear H
       have H := H1
       clear H1
       have H' := Aside0.mk H
       clear H
       have p220 : 0 ≤ (x8_1 : Int) := of_decide_eq_true (by first | (with_reducible assumption) | assumption)
       have q220 : x8_1 < (l0.length : Int) := of_decide_eq_true (by first | (with_reducible assumption) | assumption)
       obtain ⟨ad220, e220, hx220_0⟩ := Kd.at_int HR0.out x8_1 p220 q220
       cases e220
       replace p220 := eq_true p220
       replace q220 := eq_true q220
       go_wp2_with (first | (go_at_call 72; (with_reducible refine (impl_CombineRows_1.calls (rd l0 x8_1) false _ A6.out).mono ?_); rintro e w' ⟨rfl, ⟨nd, rfl⟩⟩))
       go_roundg k1
       case measure => have := HK1.out; omega
       case rel => exact ⟨(wrap64 (x8_1 + 1)), (by first | rfl | (simp; done) | (simp [*]; done)), H', ⟨by have := HK1.out; omega⟩, by repeat (first | exact Drawn0.refl _ | apply Drawn0.step)⟩
     ·rw [if_neg c5] at H
      exact absurd H (by simp)
    ·rw [if_neg c4] at H
     exact absurd H (by simp)
   ·rw [if_neg c3] at H
    have c3b0 : decide (x8_1 < (l0.length : Int)) = false := decide_eq_false c3
    clear c3
    obtain rfl := Option.some.inj H
    go_wp2
    go_ret
    exact ⟨by first | rfl | (simp; done) | (simp [*]; done), by repeat (first | exact Drawn0.refl _ | apply Drawn0.step)⟩

end Go.Proofs.Ytghiljjkaiggfaa.QFnCombined
