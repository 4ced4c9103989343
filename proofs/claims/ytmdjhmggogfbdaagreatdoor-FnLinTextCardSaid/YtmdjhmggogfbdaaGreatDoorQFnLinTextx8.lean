-- Made by a program of this claim's own (wip/print): not the kit's print as it stands.
import Derived.Test.YtmdjhmggogfbdaaGreatDoorUFnLinTextTri
import Derived.Test.YtmdjhmggogfbdaaGreatDoorQFnLinTextx0
import Derived.Test.YtmdjhmggogfbdaaGreatDoorQFnLinTextx6
import Derived.Test.YtmdjhmggogfbdaaGreatDoorQFnLinTextx7
namespace Go.Proofs.YtmdjhmggogfbdaaGreatDoor.QFnLinText
open Go.RowKit Go.Proofs.YtmdjhmggogfbdaaGreatDoorV.PrintWords Go.Proofs.YtmdjhmggogfbdaaGreatDoorV.PrintLast Go.Proofs.YtmdjhmggogfbdaaGreatDoorV.PrintMore
attribute [local go_sem] max2_int min2_int max_two min_two max_three min_three max_four min_four   -- for this text's walks alone
set_option linter.unusedVariables false
set_option linter.unusedSimpArgs false

/-! ### impl_IsValidName: function 47 -/
mutual
def impl_IsValidName.j0 : Nat → ByteArray → Bool → Option (Bool)
 | 0, _, _ => none
 | k + 1, x0, x13 => if x13 = true then (some false) else (impl_IsValidName.l0 k x0 0)
def impl_IsValidName.l0 : Nat → ByteArray → Int → Option (Bool)
 | 0, _, _ => none
 | k + 1, x0, x3 => if x3 < (x0.size : Int) then (if 0 ≤ x3 then (if (bt x0 x3) ≥ 97 then (if (bt x0 x3) ≥ 48 then (if ((bt x0 x3) ≤ 122) then (impl_IsValidName.l0 k x0 (wrap64 (x3 + 1))) else (if (bt x0 x3) ≤ 57 then (if x3 > 0 then (impl_IsValidName.l0 k x0 (wrap64 (x3 + 1))) else (some false)) else (some false))) else (if ((bt x0 x3) ≤ 122) then (impl_IsValidName.l0 k x0 (wrap64 (x3 + 1))) else (some false))) else (if (bt x0 x3) ≥ 48 then (if (bt x0 x3) ≤ 57 then (if x3 > 0 then (impl_IsValidName.l0 k x0 (wrap64 (x3 + 1))) else (some false)) else (some false)) else (some false))) else (none)) else (some true)
end
def impl_IsValidName.f (k : Nat) (a0 : ByteArray) : Option (Bool) := (impl_within.f (a0.size : Int) 1 8).bind fun t188 => (if t188 = true then ((impl_IsReserved.f a0).bind fun t189 => (impl_IsValidName.j0 k a0 t189)) else (impl_IsValidName.j0 k a0 true))
theorem impl_IsValidName.mono_l : ∀ k, (∀ y0 y1, LeO (impl_IsValidName.j0 k y0 y1) (impl_IsValidName.j0 (k + 1) y0 y1)) ∧ (∀ y0 y1, LeO (impl_IsValidName.l0 k y0 y1) (impl_IsValidName.l0 (k + 1) y0 y1))
 | 0 => ⟨fun _ _ r h => by simp [impl_IsValidName.j0] at h, fun _ _ r h => by simp [impl_IsValidName.l0] at h⟩
 | k + 1 => by
  obtain ⟨ih0, ih1⟩ := impl_IsValidName.mono_l k
  refine ⟨?_, ?_⟩
  ·intro y0 y1
   unfold impl_IsValidName.j0
   repeat' first
   | (with_reducible exact ih0 _ _)
   | (with_reducible exact ih1 _ _)
   | (with_reducible exact LeO.refl _)
   | (with_reducible exact LeO.none _)
   | (with_reducible refine LeO.ite ?_ ?_)
   | (with_reducible refine LeO.bind ?_ (fun _ => ?_))
   | exact ih0 _ _
   | exact ih1 _ _
   | exact LeO.none _
   | refine LeO.ite ?_ ?_
   | refine LeO.bind ?_ (fun _ => ?_)
  ·intro y0 y1
   unfold impl_IsValidName.l0
   repeat' first
   | (with_reducible exact ih0 _ _)
   | (with_reducible exact ih1 _ _)
   | (with_reducible exact LeO.refl _)
   | (with_reducible exact LeO.none _)
   | (with_reducible refine LeO.ite ?_ ?_)
   | (with_reducible refine LeO.bind ?_ (fun _ => ?_))
   | exact ih0 _ _
   | exact ih1 _ _
   | exact LeO.none _
   | refine LeO.ite ?_ ?_
   | refine LeO.bind ?_ (fun _ => ?_)
theorem impl_IsValidName.mono : ∀ a0 k, LeO (impl_IsValidName.f k a0) (impl_IsValidName.f (k + 1) a0) := by
 intro a0 k
 obtain ⟨ih0, ih1⟩ := impl_IsValidName.mono_l k
 unfold impl_IsValidName.f
 repeat' first
   | (with_reducible exact ih0 _ _)
   | (with_reducible exact ih1 _ _)
   | (with_reducible exact LeO.refl _)
   | (with_reducible exact LeO.none _)
   | (with_reducible refine LeO.ite ?_ ?_)
   | (with_reducible refine LeO.bind ?_ (fun _ => ?_))
   | exact ih0 _ _
   | exact ih1 _ _
   | exact LeO.none _
   | refine LeO.ite ?_ ?_
   | refine LeO.bind ?_ (fun _ => ?_)
set_option maxHeartbeats 8000000 in
set_option maxRecDepth 100000 in
theorem impl_IsValidName.calls (k : Nat) (a0 : ByteArray) (r : Bool) (w : World) (h : impl_IsValidName.f k a0 = some r) :
  Calls Tryz.prog 47 #[.string a0] w fun e w' => e = .returned (.bool r) ∧ Drawn0 w w' := by
 have H : ((impl_within.f (a0.size : Int) 1 8).bind fun t188 => (if t188 = true then ((impl_IsReserved.f a0).bind fun t189 => (impl_IsValidName.j0 k a0 t189)) else (impl_IsValidName.j0 k a0 true))) = some r := h
 clear h
 have HC2 := Aside0.mk H
 clear H
 go_enter Tryz.func47, Tryz.ntmps47
 go_upto_region 1 with (fail)
 go_cut [13] (fun v13 wc => ∃ (kq : Nat) (x13_1 : Bool), v13 = .bool x13_1 ∧ Aside0 (impl_IsValidName.j0 kq a0 x13_1 = some r) ∧ Aside0 (kq ≤ k) ∧ Drawn0 w wc)
 case first =>
  have H := HC2.out
  clear HC2
  replace H := Option.bind_eq_some_iff.mp H
  obtain ⟨t188, A30, H⟩ := H
  replace H : (if t188 = true then ((impl_IsReserved.f a0).bind fun t189 => (impl_IsValidName.j0 k a0 t189)) else (impl_IsValidName.j0 k a0 true)) = some r := H
  have A3 := Aside0.mk A30
  clear A30
  by_cases c4 : t188 = true
  ·subst c4
   have H1 : ((impl_IsReserved.f a0).bind fun t189 => (impl_IsValidName.j0 k a0 t189)) = some r := by rw [if_pos rfl] at H; exact H
   clear H
   have H := H1
   clear H1
   replace H := Option.bind_eq_some_iff.mp H
   obtain ⟨t189, A50, H⟩ := H
   replace H : (impl_IsValidName.j0 k a0 t189) = some r := H
   have A5 := Aside0.mk A50
   clear A50
   have H' := Aside0.mk H
   clear H
   go_wp2_with (first | ((with_reducible refine gate_callee (f := 60) rfl ?_); refine gl (some 8) rfl rfl Tryz.func60 (by kernel_rfl) rfl #[.int .i64 (a0.size : Int), .int .i64 1, .int .i64 8] rfl ?_; (with_reducible refine (impl_within.calls (a0.size : Int) 1 8 true _ A3.out).mono ?_); rintro e w' ⟨rfl, ⟨nd, rfl⟩⟩; refine ⟨_, rfl, ?_⟩) | (go_at_call 71; (with_reducible refine (impl_IsReserved.calls a0 t189 _ A5.out).mono ?_); rintro e w' ⟨rfl, ⟨nd, rfl⟩⟩))
   go_meet
   case rel => exact ⟨_, (t189), (by first | rfl | (simp; done) | (simp [*]; done)), H', ⟨by first | omega | exact Nat.le_refl _⟩, by repeat (first | exact Drawn0.refl _ | apply Drawn0.step)⟩
  ·replace c4 := Bool.eq_false_iff.mpr c4
   subst c4
   have H1 : (impl_IsValidName.j0 k a0 true) = some r := by rw [if_neg (show ¬ (false = true) by decide)] at H; exact H
   clear H
   have H := H1
   clear H1
   have H' := Aside0.mk H
   clear H
   go_wp2_with (first | ((with_reducible refine gate_callee (f := 60) rfl ?_); refine gl (some 8) rfl rfl Tryz.func60 (by kernel_rfl) rfl #[.int .i64 (a0.size : Int), .int .i64 1, .int .i64 8] rfl ?_; (with_reducible refine (impl_within.calls (a0.size : Int) 1 8 false _ A3.out).mono ?_); rintro e w' ⟨rfl, ⟨nd, rfl⟩⟩; refine ⟨_, rfl, ?_⟩))
   go_meet
   case rel => exact ⟨_, (true), (by first | rfl | (simp; done) | (simp [*]; done)), H', ⟨by first | omega | exact Nat.le_refl _⟩, by repeat (first | exact Drawn0.refl _ | apply Drawn0.step)⟩
 case rest =>
  clear HC2
  try clear p2
  try clear c4
  obtain ⟨kq, x13_1, rfl, HA, HJ1, ⟨mc1, rfl⟩⟩ := hcut
  cases kq with
  | zero => exact absurd HA.out (by simp [impl_IsValidName.j0])
  | succ kj1 =>
   have H := HA.out
   clear HA
   simp only [impl_IsValidName.j0] at H
   by_cases c6 : x13_1 = true
   ·subst c6
    have H1 : (some false) = some r := by rw [if_pos rfl] at H; exact H
    clear H
    have H := H1
    clear H1
    obtain rfl := Option.some.inj H
    go_wp2
    go_ret
    exact ⟨by first | rfl | (simp; done) | (simp [*]; done), by repeat (first | exact Drawn0.refl _ | apply Drawn0.step)⟩
   ·replace c6 := Bool.eq_false_iff.mpr c6
    subst c6
    have H1 : (impl_IsValidName.l0 kj1 a0 0) = some r := by rw [if_neg (show ¬ (false = true) by decide)] at H; exact H
    clear H
    have H := H1
    clear H1
    have H' := Aside0.mk H
    clear H
    go_wp2
    go_loopg [3] kj1 (fun kq v3 w' => ∃ (x3_2 : Int), v3 = .int .i64 x3_2 ∧ Aside0 (impl_IsValidName.l0 kq a0 x3_2 = some r) ∧ Aside0 (kq ≤ kj1) ∧ Drawn0 w w')
    case atStart => exact ⟨(0), (by first | rfl | (simp; done) | (simp [*]; done)), H', ⟨Nat.le_refl _⟩, by repeat (first | exact Drawn0.refl _ | apply Drawn0.step)⟩
    case round =>
     clear H'
     try clear c1
     try clear p2
     try clear c4
     try clear c6
     try clear p2
     obtain ⟨x3_2, rfl, HA, HK2, ⟨m2, rfl⟩⟩ := hrel
     cases gk with
     | zero => exact absurd HA.out (by simp [impl_IsValidName.l0])
     | succ k2 =>
      have H := HA.out
      clear HA
      simp only [impl_IsValidName.l0] at H
      by_cases c7 : x3_2 < (a0.size : Int)
      ·rw [if_pos c7] at H
       have c7b0 : decide (x3_2 < (a0.size : Int)) = true := decide_eq_true c7
       clear c7
       by_cases c8 : 0 ≤ x3_2
       ·rw [if_pos c8] at H
        have c8b0 : decide (0 ≤ x3_2) = true := decide_eq_true c8
        clear c8
        by_cases c10 : (bt a0 x3_2) ≥ 97
        ·rw [if_pos c10] at H
         have c10b0 : decide (97 ≤ (bt a0 x3_2)) = true := decide_eq_true c10
         clear c10
         by_cases c13 : (bt a0 x3_2) ≥ 48
         ·rw [if_pos c13] at H
          have c13b0 : decide (48 ≤ (bt a0 x3_2)) = true := decide_eq_true c13
          clear c13
          by_cases c15 : ((bt a0 x3_2) ≤ 122)
          ·rw [if_pos c15] at H
           have c15b0 : decide ((bt a0 x3_2) ≤ 122) = true := decide_eq_true c15
           clear c15
           have H' := Aside0.mk H
           clear H
           have p9 : 0 ≤ (x3_2 : Int) := of_decide_eq_true (by first | (with_reducible assumption) | assumption)
           have q9 : x3_2 < (a0.size : Int) := of_decide_eq_true (by first | (with_reducible assumption) | assumption)
           have hx9 := bt_at a0 x3_2
           replace p9 := eq_true p9
           replace q9 := eq_true q9
           have p11 : 0 ≤ (x3_2 : Int) := of_decide_eq_true (by first | (with_reducible assumption) | assumption)
           have q11 : x3_2 < (a0.size : Int) := of_decide_eq_true (by first | (with_reducible assumption) | assumption)
           have hx11 := bt_at a0 x3_2
           replace p11 := eq_true p11
           replace q11 := eq_true q11
           have p12 : 0 ≤ (x3_2 : Int) := of_decide_eq_true (by first | (with_reducible assumption) | assumption)
           have q12 : x3_2 < (a0.size : Int) := of_decide_eq_true (by first | (with_reducible assumption) | assumption)
           have hx12 := bt_at a0 x3_2
           replace p12 := eq_true p12
           replace q12 := eq_true q12
           have p14 : 0 ≤ (x3_2 : Int) := of_decide_eq_true (by first | (with_reducible assumption) | assumption)
           have q14 : x3_2 < (a0.size : Int) := of_decide_eq_true (by first | (with_reducible assumption) | assumption)
           have hx14 := bt_at a0 x3_2
           replace p14 := eq_true p14
           replace q14 := eq_true q14
           go_wp2
           go_roundg k2
           case measure => have := HJ1.out; have := HK2.out; omega
           case rel => exact ⟨(wrap64 (x3_2 + 1)), (by first | rfl | (simp; done) | (simp [*]; done)), H', ⟨by have := HJ1.out; have := HK2.out; omega⟩, by repeat (first | exact Drawn0.refl _ | apply Drawn0.step)⟩
          ·rw [if_neg c15] at H
           have c15b0 : decide ((bt a0 x3_2) ≤ 122) = false := decide_eq_false c15
           clear c15
           by_cases c16 : (bt a0 x3_2) ≤ 57
           ·rw [if_pos c16] at H
            have c16b0 : decide ((bt a0 x3_2) ≤ 57) = true := decide_eq_true c16
            clear c16
            by_cases c17 : x3_2 > 0
            ·rw [if_pos c17] at H
             have c17b0 : decide (0 < x3_2) = true := decide_eq_true c17
             clear c17
             have H' := Aside0.mk H
             clear H
             have p9 : 0 ≤ (x3_2 : Int) := of_decide_eq_true (by first | (with_reducible assumption) | assumption)
             have q9 : x3_2 < (a0.size : Int) := of_decide_eq_true (by first | (with_reducible assumption) | assumption)
             have hx9 := bt_at a0 x3_2
             replace p9 := eq_true p9
             replace q9 := eq_true q9
             have p11 : 0 ≤ (x3_2 : Int) := of_decide_eq_true (by first | (with_reducible assumption) | assumption)
             have q11 : x3_2 < (a0.size : Int) := of_decide_eq_true (by first | (with_reducible assumption) | assumption)
             have hx11 := bt_at a0 x3_2
             replace p11 := eq_true p11
             replace q11 := eq_true q11
             have p12 : 0 ≤ (x3_2 : Int) := of_decide_eq_true (by first | (with_reducible assumption) | assumption)
             have q12 : x3_2 < (a0.size : Int) := of_decide_eq_true (by first | (with_reducible assumption) | assumption)
             have hx12 := bt_at a0 x3_2
             replace p12 := eq_true p12
             replace q12 := eq_true q12
             have p14 : 0 ≤ (x3_2 : Int) := of_decide_eq_true (by first | (with_reducible assumption) | assumption)
             have q14 : x3_2 < (a0.size : Int) := of_decide_eq_true (by first | (with_reducible assumption) | assumption)
             have hx14 := bt_at a0 x3_2
             replace p14 := eq_true p14
             replace q14 := eq_true q14
             go_wp2
             go_roundg k2
             case measure => have := HJ1.out; have := HK2.out; omega
             case rel => exact ⟨(wrap64 (x3_2 + 1)), (by first | rfl | (simp; done) | (simp [*]; done)), H', ⟨by have := HJ1.out; have := HK2.out; omega⟩, by repeat (first | exact Drawn0.refl _ | apply Drawn0.step)⟩
            ·rw [if_neg c17] at H
             have c17b0 : decide (0 < x3_2) = false := decide_eq_false c17
             clear c17
             obtain rfl := Option.some.inj H
             have p9 : 0 ≤ (x3_2 : Int) := of_decide_eq_true (by first | (with_reducible assumption) | assumption)
             have q9 : x3_2 < (a0.size : Int) := of_decide_eq_true (by first | (with_reducible assumption) | assumption)
             have hx9 := bt_at a0 x3_2
             replace p9 := eq_true p9
             replace q9 := eq_true q9
             have p11 : 0 ≤ (x3_2 : Int) := of_decide_eq_true (by first | (with_reducible assumption) | assumption)
             have q11 : x3_2 < (a0.size : Int) := of_decide_eq_true (by first | (with_reducible assumption) | assumption)
             have hx11 := bt_at a0 x3_2
             replace p11 := eq_true p11
             replace q11 := eq_true q11
             have p12 : 0 ≤ (x3_2 : Int) := of_decide_eq_true (by first | (with_reducible assumption) | assumption)
             have q12 : x3_2 < (a0.size : Int) := of_decide_eq_true (by first | (with_reducible assumption) | assumption)
             have hx12 := bt_at a0 x3_2
             replace p12 := eq_true p12
             replace q12 := eq_true q12
             have p14 : 0 ≤ (x3_2 : Int) := of_decide_eq_true (by first | (with_reducible assumption) | assumption)
             have q14 : x3_2 < (a0.size : Int) := of_decide_eq_true (by first | (with_reducible assumption) | assumption)
             have hx14 := bt_at a0 x3_2
             replace p14 := eq_true p14
             replace q14 := eq_true q14
             go_wp2
             go_ret
             exact ⟨by first | rfl | (simp; done) | (simp [*]; done), by repeat (first | exact Drawn0.refl _ | apply Drawn0.step)⟩
           ·rw [if_neg c16] at H
            have c16b0 : decide ((bt a0 x3_2) ≤ 57) = false := decide_eq_false c16
            clear c16
            obtain rfl := Option.some.inj H
            have p9 : 0 ≤ (x3_2 : Int) := of_decide_eq_true (by first | (with_reducible assumption) | assumption)
            have q9 : x3_2 < (a0.size : Int) := of_decide_eq_true (by first | (with_reducible assumption) | assumption)
            have hx9 := bt_at a0 x3_2
            replace p9 := eq_true p9
            replace q9 := eq_true q9
            have p11 : 0 ≤ (x3_2 : Int) := of_decide_eq_true (by first | (with_reducible assumption) | assumption)
            have q11 : x3_2 < (a0.size : Int) := of_decide_eq_true (by first | (with_reducible assumption) | assumption)
            have hx11 := bt_at a0 x3_2
            replace p11 := eq_true p11
            replace q11 := eq_true q11
            have p12 : 0 ≤ (x3_2 : Int) := of_decide_eq_true (by first | (with_reducible assumption) | assumption)
            have q12 : x3_2 < (a0.size : Int) := of_decide_eq_true (by first | (with_reducible assumption) | assumption)
            have hx12 := bt_at a0 x3_2
            replace p12 := eq_true p12
            replace q12 := eq_true q12
            have p14 : 0 ≤ (x3_2 : Int) := of_decide_eq_true (by first | (with_reducible assumption) | assumption)
            have q14 : x3_2 < (a0.size : Int) := of_decide_eq_true (by first | (with_reducible assumption) | assumption)
            have hx14 := bt_at a0 x3_2
            replace p14 := eq_true p14
            replace q14 := eq_true q14
            go_wp2
            go_ret
            exact ⟨by first | rfl | (simp; done) | (simp [*]; done), by repeat (first | exact Drawn0.refl _ | apply Drawn0.step)⟩
         ·rw [if_neg c13] at H
          have c13b0 : decide (48 ≤ (bt a0 x3_2)) = false := decide_eq_false c13
          clear c13
          by_cases c18 : ((bt a0 x3_2) ≤ 122)
          ·rw [if_pos c18] at H
           have c18b0 : decide ((bt a0 x3_2) ≤ 122) = true := decide_eq_true c18
           clear c18
           have H' := Aside0.mk H
           clear H
           have p9 : 0 ≤ (x3_2 : Int) := of_decide_eq_true (by first | (with_reducible assumption) | assumption)
           have q9 : x3_2 < (a0.size : Int) := of_decide_eq_true (by first | (with_reducible assumption) | assumption)
           have hx9 := bt_at a0 x3_2
           replace p9 := eq_true p9
           replace q9 := eq_true q9
           have p11 : 0 ≤ (x3_2 : Int) := of_decide_eq_true (by first | (with_reducible assumption) | assumption)
           have q11 : x3_2 < (a0.size : Int) := of_decide_eq_true (by first | (with_reducible assumption) | assumption)
           have hx11 := bt_at a0 x3_2
           replace p11 := eq_true p11
           replace q11 := eq_true q11
           have p12 : 0 ≤ (x3_2 : Int) := of_decide_eq_true (by first | (with_reducible assumption) | assumption)
           have q12 : x3_2 < (a0.size : Int) := of_decide_eq_true (by first | (with_reducible assumption) | assumption)
           have hx12 := bt_at a0 x3_2
           replace p12 := eq_true p12
           replace q12 := eq_true q12
           go_wp2
           go_roundg k2
           case measure => have := HJ1.out; have := HK2.out; omega
           case rel => exact ⟨(wrap64 (x3_2 + 1)), (by first | rfl | (simp; done) | (simp [*]; done)), H', ⟨by have := HJ1.out; have := HK2.out; omega⟩, by repeat (first | exact Drawn0.refl _ | apply Drawn0.step)⟩
          ·rw [if_neg c18] at H
           have c18b0 : decide ((bt a0 x3_2) ≤ 122) = false := decide_eq_false c18
           clear c18
           obtain rfl := Option.some.inj H
           have p9 : 0 ≤ (x3_2 : Int) := of_decide_eq_true (by first | (with_reducible assumption) | assumption)
           have q9 : x3_2 < (a0.size : Int) := of_decide_eq_true (by first | (with_reducible assumption) | assumption)
           have hx9 := bt_at a0 x3_2
           replace p9 := eq_true p9
           replace q9 := eq_true q9
           have p11 : 0 ≤ (x3_2 : Int) := of_decide_eq_true (by first | (with_reducible assumption) | assumption)
           have q11 : x3_2 < (a0.size : Int) := of_decide_eq_true (by first | (with_reducible assumption) | assumption)
           have hx11 := bt_at a0 x3_2
           replace p11 := eq_true p11
           replace q11 := eq_true q11
           have p12 : 0 ≤ (x3_2 : Int) := of_decide_eq_true (by first | (with_reducible assumption) | assumption)
           have q12 : x3_2 < (a0.size : Int) := of_decide_eq_true (by first | (with_reducible assumption) | assumption)
           have hx12 := bt_at a0 x3_2
           replace p12 := eq_true p12
           replace q12 := eq_true q12
           go_wp2
           go_ret
           exact ⟨by first | rfl | (simp; done) | (simp [*]; done), by repeat (first | exact Drawn0.refl _ | apply Drawn0.step)⟩
        ·rw [if_neg c10] at H
         have c10b0 : decide (97 ≤ (bt a0 x3_2)) = false := decide_eq_false c10
         clear c10
         by_cases c20 : (bt a0 x3_2) ≥ 48
         ·rw [if_pos c20] at H
          have c20b0 : decide (48 ≤ (bt a0 x3_2)) = true := decide_eq_true c20
          clear c20
          by_cases c22 : (bt a0 x3_2) ≤ 57
          ·rw [if_pos c22] at H
           have c22b0 : decide ((bt a0 x3_2) ≤ 57) = true := decide_eq_true c22
           clear c22
           by_cases c23 : x3_2 > 0
           ·rw [if_pos c23] at H
            have c23b0 : decide (0 < x3_2) = true := decide_eq_true c23
            clear c23
            have H' := Aside0.mk H
            clear H
            have p9 : 0 ≤ (x3_2 : Int) := of_decide_eq_true (by first | (with_reducible assumption) | assumption)
            have q9 : x3_2 < (a0.size : Int) := of_decide_eq_true (by first | (with_reducible assumption) | assumption)
            have hx9 := bt_at a0 x3_2
            replace p9 := eq_true p9
            replace q9 := eq_true q9
            have p19 : 0 ≤ (x3_2 : Int) := of_decide_eq_true (by first | (with_reducible assumption) | assumption)
            have q19 : x3_2 < (a0.size : Int) := of_decide_eq_true (by first | (with_reducible assumption) | assumption)
            have hx19 := bt_at a0 x3_2
            replace p19 := eq_true p19
            replace q19 := eq_true q19
            have p21 : 0 ≤ (x3_2 : Int) := of_decide_eq_true (by first | (with_reducible assumption) | assumption)
            have q21 : x3_2 < (a0.size : Int) := of_decide_eq_true (by first | (with_reducible assumption) | assumption)
            have hx21 := bt_at a0 x3_2
            replace p21 := eq_true p21
            replace q21 := eq_true q21
            go_wp2
            go_roundg k2
            case measure => have := HJ1.out; have := HK2.out; omega
            case rel => exact ⟨(wrap64 (x3_2 + 1)), (by first | rfl | (simp; done) | (simp [*]; done)), H', ⟨by have := HJ1.out; have := HK2.out; omega⟩, by repeat (first | exact Drawn0.refl _ | apply Drawn0.step)⟩
           ·rw [if_neg c23] at H
            have c23b0 : decide (0 < x3_2) = false := decide_eq_false c23
            clear c23
            obtain rfl := Option.some.inj H
            have p9 : 0 ≤ (x3_2 : Int) := of_decide_eq_true (by first | (with_reducible assumption) | assumption)
            have q9 : x3_2 < (a0.size : Int) := of_decide_eq_true (by first | (with_reducible assumption) | assumption)
            have hx9 := bt_at a0 x3_2
            replace p9 := eq_true p9
            replace q9 := eq_true q9
            have p19 : 0 ≤ (x3_2 : Int) := of_decide_eq_true (by first | (with_reducible assumption) | assumption)
            have q19 : x3_2 < (a0.size : Int) := of_decide_eq_true (by first | (with_reducible assumption) | assumption)
            have hx19 := bt_at a0 x3_2
            replace p19 := eq_true p19
            replace q19 := eq_true q19
            have p21 : 0 ≤ (x3_2 : Int) := of_decide_eq_true (by first | (with_reducible assumption) | assumption)
            have q21 : x3_2 < (a0.size : Int) := of_decide_eq_true (by first | (with_reducible assumption) | assumption)
            have hx21 := bt_at a0 x3_2
            replace p21 := eq_true p21
            replace q21 := eq_true q21
            go_wp2
            go_ret
            exact ⟨by first | rfl | (simp; done) | (simp [*]; done), by repeat (first | exact Drawn0.refl _ | apply Drawn0.step)⟩
          ·rw [if_neg c22] at H
           have c22b0 : decide ((bt a0 x3_2) ≤ 57) = false := decide_eq_false c22
           clear c22
           obtain rfl := Option.some.inj H
           have p9 : 0 ≤ (x3_2 : Int) := of_decide_eq_true (by first | (with_reducible assumption) | assumption)
           have q9 : x3_2 < (a0.size : Int) := of_decide_eq_true (by first | (with_reducible assumption) | assumption)
           have hx9 := bt_at a0 x3_2
           replace p9 := eq_true p9
           replace q9 := eq_true q9
           have p19 : 0 ≤ (x3_2 : Int) := of_decide_eq_true (by first | (with_reducible assumption) | assumption)
           have q19 : x3_2 < (a0.size : Int) := of_decide_eq_true (by first | (with_reducible assumption) | assumption)
           have hx19 := bt_at a0 x3_2
           replace p19 := eq_true p19
           replace q19 := eq_true q19
           have p21 : 0 ≤ (x3_2 : Int) := of_decide_eq_true (by first | (with_reducible assumption) | assumption)
           have q21 : x3_2 < (a0.size : Int) := of_decide_eq_true (by first | (with_reducible assumption) | assumption)
           have hx21 := bt_at a0 x3_2
           replace p21 := eq_true p21
           replace q21 := eq_true q21
           go_wp2
           go_ret
           exact ⟨by first | rfl | (simp; done) | (simp [*]; done), by repeat (first | exact Drawn0.refl _ | apply Drawn0.step)⟩
         ·rw [if_neg c20] at H
          have c20b0 : decide (48 ≤ (bt a0 x3_2)) = false := decide_eq_false c20
          clear c20
          obtain rfl := Option.some.inj H
          have p9 : 0 ≤ (x3_2 : Int) := of_decide_eq_true (by first | (with_reducible assumption) | assumption)
          have q9 : x3_2 < (a0.size : Int) := of_decide_eq_true (by first | (with_reducible assumption) | assumption)
          have hx9 := bt_at a0 x3_2
          replace p9 := eq_true p9
          replace q9 := eq_true q9
          have p19 : 0 ≤ (x3_2 : Int) := of_decide_eq_true (by first | (with_reducible assumption) | assumption)
          have q19 : x3_2 < (a0.size : Int) := of_decide_eq_true (by first | (with_reducible assumption) | assumption)
          have hx19 := bt_at a0 x3_2
          replace p19 := eq_true p19
          replace q19 := eq_true q19
          go_wp2
          go_ret
          exact ⟨by first | rfl | (simp; done) | (simp [*]; done), by repeat (first | exact Drawn0.refl _ | apply Drawn0.step)⟩
       ·rw [if_neg c8] at H
        exact absurd H (by simp)
      ·rw [if_neg c7] at H
       have c7b0 : decide (x3_2 < (a0.size : Int)) = false := decide_eq_false c7
       clear c7
       obtain rfl := Option.some.inj H
       go_wp2
       go_ret
       exact ⟨by first | rfl | (simp; done) | (simp [*]; done), by repeat (first | exact Drawn0.refl _ | apply Drawn0.step)⟩

/-! ### impl_FormatLin_1: function 46 -/
def impl_FormatLin_1.f (k : Nat) (a0 : ByteArray) : Option (Bool) := (impl_IsValidName.f k a0).bind fun t190 => (some (!t190))
theorem impl_FormatLin_1.mono : ∀ a0 k, LeO (impl_FormatLin_1.f k a0) (impl_FormatLin_1.f (k + 1) a0) := by
 intro a0 k
 unfold impl_FormatLin_1.f
 repeat' first
   | (with_reducible exact impl_IsValidName.mono _ _)
   | (with_reducible exact LeO.refl _)
   | (with_reducible exact LeO.none _)
   | (with_reducible refine LeO.ite ?_ ?_)
   | (with_reducible refine LeO.bind ?_ (fun _ => ?_))
   | exact impl_IsValidName.mono _ _
   | exact LeO.none _
   | refine LeO.ite ?_ ?_
   | refine LeO.bind ?_ (fun _ => ?_)
set_option maxHeartbeats 8000000 in
set_option maxRecDepth 100000 in
theorem impl_FormatLin_1.calls (k : Nat) (a0 : ByteArray) (r : Bool) (w : World) (h : impl_FormatLin_1.f k a0 = some r) :
  Calls Tryz.prog 46 #[.string a0] w fun e w' => e = .returned (.bool r) ∧ Drawn0 w w' := by
 have H : ((impl_IsValidName.f k a0).bind fun t190 => (some (!t190))) = some r := h
 clear h
 replace H := Option.bind_eq_some_iff.mp H
 obtain ⟨t190, A20, H⟩ := H
 replace H : (some (!t190)) = some r := H
 have A2 := Aside0.mk A20
 clear A20
 obtain rfl := Option.some.inj H
 go_enter Tryz.func46, Tryz.ntmps46
 go_wp2_with (first | ((with_reducible refine gate_callee (f := 47) rfl ?_); refine gl (some 4) rfl rfl Tryz.func47 (by kernel_rfl) rfl #[.string a0] rfl ?_; (with_reducible refine (impl_IsValidName.calls k a0 t190 _ A2.out).mono ?_); rintro e w' ⟨rfl, ⟨nd, rfl⟩⟩; refine ⟨_, rfl, ?_⟩))
 go_ret
 exact ⟨by first | rfl | (simp; done) | (simp [*]; done), by repeat (first | exact Drawn0.refl _ | apply Drawn0.step)⟩

/-! ### slices_IndexFunc_string_string__FormatLin_1: function 70 -/
def slices_IndexFunc_string_string__FormatLin_1.l0 : Nat → List ByteArray → Int → Int → Option (Int)
 | 0, _, _, _ => none
 | k + 1, x0, x7, x8 => if x8 < x7 then (if 0 ≤ x8 then (if x8 < (x0.length : Int) then ((impl_FormatLin_1.f k (rdOf ByteArray.empty x0 x8)).bind fun t192 => (if t192 = true then (some x8) else (slices_IndexFunc_string_string__FormatLin_1.l0 k x0 x7 (wrap64 (x8 + 1))))) else (none)) else (none)) else (some (-1))
def slices_IndexFunc_string_string__FormatLin_1.f (k : Nat) (l0 : List ByteArray) (a1 : Unit) : Option (Int) := slices_IndexFunc_string_string__FormatLin_1.l0 k l0 (l0.length : Int) 0
theorem slices_IndexFunc_string_string__FormatLin_1.mono_l : ∀ k, (∀ y0 y1 y2, LeO (slices_IndexFunc_string_string__FormatLin_1.l0 k y0 y1 y2) (slices_IndexFunc_string_string__FormatLin_1.l0 (k + 1) y0 y1 y2))
 | 0 => fun _ _ _ r h => by simp [slices_IndexFunc_string_string__FormatLin_1.l0] at h
 | k + 1 => by
  have ih0 := slices_IndexFunc_string_string__FormatLin_1.mono_l k
  ·intro y0 y1 y2
   unfold slices_IndexFunc_string_string__FormatLin_1.l0
   repeat' first
   | (with_reducible exact ih0 _ _ _)
   | (with_reducible exact impl_FormatLin_1.mono _ _)
   | (with_reducible exact LeO.refl _)
   | (with_reducible exact LeO.none _)
   | (with_reducible refine LeO.ite ?_ ?_)
   | (with_reducible refine LeO.bind ?_ (fun _ => ?_))
   | exact ih0 _ _ _
   | exact impl_FormatLin_1.mono _ _
   | exact LeO.none _
   | refine LeO.ite ?_ ?_
   | refine LeO.bind ?_ (fun _ => ?_)
theorem slices_IndexFunc_string_string__FormatLin_1.mono : ∀ a0 a1 k, LeO (slices_IndexFunc_string_string__FormatLin_1.f k a0 a1) (slices_IndexFunc_string_string__FormatLin_1.f (k + 1) a0 a1) := by
 intro a0 a1 k
 have ih0 := slices_IndexFunc_string_string__FormatLin_1.mono_l k
 unfold slices_IndexFunc_string_string__FormatLin_1.f
 repeat' first
   | (with_reducible exact ih0 _ _ _)
   | (with_reducible exact impl_FormatLin_1.mono _ _)
   | (with_reducible exact LeO.refl _)
   | (with_reducible exact LeO.none _)
   | (with_reducible refine LeO.ite ?_ ?_)
   | (with_reducible refine LeO.bind ?_ (fun _ => ?_))
   | exact ih0 _ _ _
   | exact impl_FormatLin_1.mono _ _
   | exact LeO.none _
   | refine LeO.ite ?_ ?_
   | refine LeO.bind ?_ (fun _ => ?_)
set_option maxHeartbeats 8000000 in
set_option maxRecDepth 100000 in
theorem slices_IndexFunc_string_string__FormatLin_1.calls (k : Nat) (A0 : Option Addr) (c0 : Nat) (l0 : List ByteArray) (a1 : Unit) (r : Int) (w : World) (hr0 : Kd.C Kd.string w A0 l0.length l0) (hc0 : l0.length ≤ c0) (h : slices_IndexFunc_string_string__FormatLin_1.f k l0 a1 = some r) :
  Calls Tryz.prog 70 #[.slice A0 l0.length c0, .func (.func 46) #[] #[]] w fun e w' => e = .returned (.int .i64 r) ∧ Drawn0 w w' := by
 have HR0 := Aside0.mk hr0
 have HC0 := Aside0.mk hc0
 clear hr0 hc0
 have H : (slices_IndexFunc_string_string__FormatLin_1.l0 k l0 (l0.length : Int) 0) = some r := h
 clear h
 have H' := Aside0.mk H
 clear H
 go_enter Tryz.func70, Tryz.ntmps70
 go_wp2
 go_loopg [8] k (fun kq v8 w' => ∃ (x8_1 : Int), v8 = .int .i64 x8_1 ∧ Aside0 (slices_IndexFunc_string_string__FormatLin_1.l0 kq l0 (l0.length : Int) x8_1 = some r) ∧ Aside0 (kq ≤ k) ∧ Drawn0 w w')
 case atStart => exact ⟨(0), (by first | rfl | (simp; done) | (simp [*]; done)), H', ⟨Nat.le_refl _⟩, by repeat (first | exact Drawn0.refl _ | apply Drawn0.step)⟩
 case round =>
  clear H'
  try clear p2
  obtain ⟨x8_1, rfl, HA, HK1, ⟨m1, rfl⟩⟩ := hrel
  cases gk with
  | zero => exact absurd HA.out (by simp [slices_IndexFunc_string_string__FormatLin_1.l0])
  | succ k1 =>
   have H := HA.out
   clear HA
   simp only [slices_IndexFunc_string_string__FormatLin_1.l0] at H
   by_cases c3 : x8_1 < (l0.length : Int)
   ·rw [if_pos c3] at H
    have c3b0 : decide (x8_1 < (l0.length : Int)) = true := decide_eq_true c3
    clear c3
    by_cases c4 : 0 ≤ x8_1
    ·rw [if_pos c4] at H
     have c4b0 : decide (0 ≤ x8_1) = true := decide_eq_true c4
     clear c4
     by_cases c5 : x8_1 < (l0.length : Int)
     ·rw [if_pos c5] at H
      have c5b0 : decide (x8_1 < (l0.length : Int)) = true := decide_eq_true c5
      clear c5
      replace H := Option.bind_eq_some_iff.mp H
      obtain ⟨t192, A60, H⟩ := H
      replace H : (if t192 = true then (some x8_1) else (slices_IndexFunc_string_string__FormatLin_1.l0 k1 l0 (l0.length : Int) (wrap64 (x8_1 + 1)))) = some r := H
      have A6 := Aside0.mk A60
      clear A60
      by_cases c7 : t192 = true
      ·subst c7
       have H1 : (some x8_1) = some r := by rw [if_pos rfl] at H; exact H
       clear H
       have H := H1
       clear H1
       obtain rfl := Option.some.inj H
       have p191 : 0 ≤ (x8_1 : Int) := of_decide_eq_true (by first | (with_reducible assumption) | assumption)
       have q191 : x8_1 < (l0.length : Int) := of_decide_eq_true (by first | (with_reducible assumption) | assumption)
       obtain ⟨ad191, e191, hx191_0⟩ := Kd.at_string HR0.out x8_1 p191 q191
       cases e191
       replace p191 := eq_true p191
       replace q191 := eq_true q191
       go_wp2_with (first | (go_at_call 46; (with_reducible refine (impl_FormatLin_1.calls k1 (rdOf ByteArray.empty l0 x8_1) true _ A6.out).mono ?_); rintro e w' ⟨rfl, ⟨nd, rfl⟩⟩))
       go_ret
       exact ⟨by first | rfl | (simp; done) | (simp [*]; done), by repeat (first | exact Drawn0.refl _ | apply Drawn0.step)⟩
      ·replace c7 := Bool.eq_false_iff.mpr c7
       subst c7
       have H1 : (slices_IndexFunc_string_string__FormatLin_1.l0 k1 l0 (l0.length : Int) (wrap64 (x8_1 + 1))) = some r := by rw [if_neg (show ¬ (false = true) by decide)] at H; exact H
       clear H
       have H := H1
       clear H1
       have H' := Aside0.mk H
       clear H
       have p191 : 0 ≤ (x8_1 : Int) := of_decide_eq_true (by first | (with_reducible assumption) | assumption)
       have q191 : x8_1 < (l0.length : Int) := of_decide_eq_true (by first | (with_reducible assumption) | assumption)
       obtain ⟨ad191, e191, hx191_0⟩ := Kd.at_string HR0.out x8_1 p191 q191
       cases e191
       replace p191 := eq_true p191
       replace q191 := eq_true q191
       go_wp2_with (first | (go_at_call 46; (with_reducible refine (impl_FormatLin_1.calls k1 (rdOf ByteArray.empty l0 x8_1) false _ A6.out).mono ?_); rintro e w' ⟨rfl, ⟨nd, rfl⟩⟩))
       go_roundg k1
       case measure => have := HK1.out; omega
       case rel => exact ⟨(wrap64 (x8_1 + 1)), (by first | rfl | (simp; done) | (simp [*]; done)), H', ⟨by have := HK1.out; omega⟩, by repeat (first | exact Drawn0.refl _ | apply Drawn0.step)⟩
     ·rw [if_neg c5] at H
      exact absurd H (by simp)
    ·rw [if_neg c4] at H
     exact absurd H (by simp)
   ·rw [if_neg c3] at H
    have c3b0 : decide (x8_1 < (l0.length : Int)) = false := decide_eq_false c3
    clear c3
    obtain rfl := Option.some.inj H
    go_wp2
    go_ret
    exact ⟨by first | rfl | (simp; done) | (simp [*]; done), by repeat (first | exact Drawn0.refl _ | apply Drawn0.step)⟩

/-! ### slices_ContainsFunc_string_string__FormatLin_1: function 45 -/
def slices_ContainsFunc_string_string__FormatLin_1.f (k : Nat) (l0 : List ByteArray) (a1 : Unit) : Option (Bool) := (slices_IndexFunc_string_string__FormatLin_1.f k l0 a1).bind fun t193 => (some (decide (t193 ≥ 0)))
theorem slices_ContainsFunc_string_string__FormatLin_1.mono : ∀ a0 a1 k, LeO (slices_ContainsFunc_string_string__FormatLin_1.f k a0 a1) (slices_ContainsFunc_string_string__FormatLin_1.f (k + 1) a0 a1) := by
 intro a0 a1 k
 unfold slices_ContainsFunc_string_string__FormatLin_1.f
 repeat' first
   | (with_reducible exact slices_IndexFunc_string_string__FormatLin_1.mono _ _ _)
   | (with_reducible exact LeO.refl _)
   | (with_reducible exact LeO.none _)
   | (with_reducible refine LeO.ite ?_ ?_)
   | (with_reducible refine LeO.bind ?_ (fun _ => ?_))
   | exact slices_IndexFunc_string_string__FormatLin_1.mono _ _ _
   | exact LeO.none _
   | refine LeO.ite ?_ ?_
   | refine LeO.bind ?_ (fun _ => ?_)
set_option maxHeartbeats 8000000 in
set_option maxRecDepth 100000 in
theorem slices_ContainsFunc_string_string__FormatLin_1.calls (k : Nat) (A0 : Option Addr) (c0 : Nat) (l0 : List ByteArray) (a1 : Unit) (r : Bool) (w : World) (hr0 : Kd.C Kd.string w A0 l0.length l0) (hc0 : l0.length ≤ c0) (h : slices_ContainsFunc_string_string__FormatLin_1.f k l0 a1 = some r) :
  Calls Tryz.prog 45 #[.slice A0 l0.length c0, .func (.func 46) #[] #[]] w fun e w' => e = .returned (.bool r) ∧ Drawn0 w w' := by
 have HR0 := Aside0.mk hr0
 have HC0 := Aside0.mk hc0
 clear hr0 hc0
 have H : ((slices_IndexFunc_string_string__FormatLin_1.f k l0 a1).bind fun t193 => (some (decide (t193 ≥ 0)))) = some r := h
 clear h
 replace H := Option.bind_eq_some_iff.mp H
 obtain ⟨t193, A30, H⟩ := H
 replace H : (some (decide (t193 ≥ 0))) = some r := H
 have A3 := Aside0.mk A30
 clear A30
 obtain rfl := Option.some.inj H
 go_enter Tryz.func45, Tryz.ntmps45
 go_wp2_with (first | (go_at_call 70; (with_reducible refine (slices_IndexFunc_string_string__FormatLin_1.calls k _ _ l0 a1 t193 _ ?side1 ?side2 A3.out).mono ?_); (case side1 => repeat (first | exact HR0.out | (with_reducible refine Kd.C_alloc ?_ _) | (with_reducible refine Kd.C_drewN ?_ _) | (with_reducible refine Kd.C_drew ?_))); (case side2 => exact HC0.out); rintro e w' ⟨rfl, ⟨nd, rfl⟩⟩))
 go_ret
 exact ⟨by first | rfl | (simp; done) | (simp [*]; done), by repeat (first | exact Drawn0.refl _ | apply Drawn0.step)⟩

/-- The pieces of a written term; b1: the number is negative; b2: nothing was written before; b3: the number is 1; b4: there is a name. -/
def fl_term (b1 b2 b3 b4 : Bool) (out A nm : ByteArray) : ByteArray := (bif b2 then (bif b1 then (⟨#[45]⟩ : ByteArray) else out) else bif b1 then out ++ (⟨#[32, 45, 32]⟩ : ByteArray) else out ++ (⟨#[32, 43, 32]⟩ : ByteArray)) ++ ((bif b3 && b4 then (⟨#[]⟩ : ByteArray) else A) ++ nm)
set_option maxHeartbeats 8000000 in
set_option maxRecDepth 100000 in
theorem fl_walk (b1 b2 b3 b4 : Bool) (g : Nat) (c : Int) (nm out A : ByteArray) (w0 w : World) (hB : Below w0.heap.size w0 w) (hg : w0.heap.size ≤ g) (hc : w.heap[g]? = some (.cells #[.string out] 9 (0, 0)))
  (hf : impl_FormatInt.f (if c < wrap64 (-c) then wrap64 (-c) else c) = some A) (hT : TbL w0) (s1 : out.size ≤ 1000000000000) (s2 : nm.size ≤ 1000000000000) (s3 : A.size ≤ 1000)
  (e1 : decide (c < 0) = b1) (e2 : (out.toList == ([] : List UInt8)) = b2) (e2' : (out.toList != ([] : List UInt8)) = !b2) (e3 : (A.toList == ([49] : List UInt8)) = b3) (e4 : (nm.toList != ([] : List UInt8)) = b4) (e5 : nm.toList.isEmpty = !b4) (e6 : out.toList.isEmpty = b2) :
  Calls Tryz.prog 48 #[.int .i64 c, .string nm, .pointer (some ⟨g, 0, none⟩)] w fun e w' => e = .returned (.tuple #[]) ∧ w'.heap[g]? = some (.cells #[.string (fl_term b1 b2 b3 b4 out A nm)] 9 (0, 0)) ∧ Below w0.heap.size w0 w' := by
 have hTw : TbL w := tb_of hT ⟨hB⟩
 have hlt := lt_of_block hc
 have hF := Aside0.mk hf
 clear hf
 cases b1 <;> cases b2 <;> cases b3 <;> cases b4
 all_goals
  go_enter Tryz.func48, Tryz.ntmps48
  go_wp2_with (go_at_call 49; refine (impl_FormatInt.calls _ _ _ hF.out hTw).mono ?_; rintro e w1 ⟨rfl, hb⟩; have hc1 := (hb.block g hlt).trans hc; have hcell := cell_of_one hc1; have hfr := free_of_one hc1; have hB1 := Aside0.mk (hB.trans (hb.mono hB.size)); clear hb)
 all_goals go_end0
 all_goals first
  | exact ⟨rfl, one_setCell (one_setCell hc1), (hB1.out.setCell hg _).setCell hg _⟩
  | exact ⟨rfl, one_setCell hc1, hB1.out.setCell hg _⟩
def fl_amt (c : Int) : ByteArray := ⟨(Lib.itoa (if c < 0 then -c else c)).toArray⟩
/-- The text behind a term more; none where the sizes are too great. -/
def fl_step (c : Int) (nm out : ByteArray) : Option ByteArray := if (-1000000000000000000 ≤ c ∧ c ≤ 1000000000000000000) ∧ out.size ≤ 1000000000000 ∧ nm.size ≤ 1000000000000 ∧ (fl_amt c).size ≤ 1000 then some (fl_term (decide (c < 0)) (decide (out = ⟨#[]⟩)) (decide (fl_amt c = ⟨#[49]⟩)) (decide (nm ≠ ⟨#[]⟩)) out (fl_amt c) nm) else none
theorem fl_text (a b : ByteArray) : a.toList = b.toList ↔ a = b := by
 rw [Lib.toList_data, Lib.toList_data]
 exact ⟨fun h => ByteArray.ext (Array.toList_inj.1 h), fun h => by rw [h]⟩
theorem fl_eq (a : ByteArray) (L : List UInt8) : (a.toList == L) = decide (a = ⟨L.toArray⟩) := by
 have e : L = (⟨L.toArray⟩ : ByteArray).toList := by rw [Lib.toList_data]
 rw [Bool.eq_iff_iff, beq_iff_eq, decide_eq_true_iff]
 conv => lhs; rhs; rw [e]
 exact fl_text _ _
theorem fl_calls (g : Nat) (c : Int) (nm out r : ByteArray) (w0 w : World) (hB : Below w0.heap.size w0 w) (hg : w0.heap.size ≤ g) (hc : w.heap[g]? = some (.cells #[.string out] 9 (0, 0))) (h : fl_step c nm out = some r) (hT : TbL w0) :
  Calls Tryz.prog 48 #[.int .i64 c, .string nm, .pointer (some ⟨g, 0, none⟩)] w fun e w' => e = .returned (.tuple #[]) ∧ w'.heap[g]? = some (.cells #[.string r] 9 (0, 0)) ∧ Below w0.heap.size w0 w' := by
 unfold fl_step at h
 by_cases hb : (-1000000000000000000 ≤ c ∧ c ≤ 1000000000000000000) ∧ out.size ≤ 1000000000000 ∧ nm.size ≤ 1000000000000 ∧ (fl_amt c).size ≤ 1000
 ·rw [if_pos hb] at h
  obtain rfl := Option.some.inj h
  obtain ⟨⟨c0, c1⟩, s1, s2, s3⟩ := hb
  have hneg : wrap64 (-c) = -c := by unfold wrap64; omega
  have hf : impl_FormatInt.f (if c < wrap64 (-c) then wrap64 (-c) else c) = some (fl_amt c) := by
   rw [hneg, show (if c < -c then -c else c) = (if c < 0 then -c else c) from by split <;> split <;> omega]
   simp only [impl_FormatInt.f, strconv_Itoa_72.f, fl_amt]
   rw [if_pos (by split <;> omega)]; rfl
  have en : (nm.toList == ([] : List UInt8)) = decide (nm = ⟨#[]⟩) := fl_eq nm []
  have eo : (out.toList == ([] : List UInt8)) = decide (out = ⟨#[]⟩) := fl_eq out []
  refine fl_walk _ _ _ _ g c nm out (fl_amt c) w0 w hB hg hc hf hT s1 s2 s3 rfl eo ?_ (fl_eq _ _) ?_ ?_ ?_
  ·show (!(out.toList == ([] : List UInt8))) = _
   rw [eo]
  ·show (!(nm.toList == ([] : List UInt8))) = _
   rw [en]; simp
  ·rw [show nm.toList.isEmpty = (nm.toList == []) from by cases nm.toList <;> rfl, en]; simp
  ·rw [show out.toList.isEmpty = (out.toList == []) from by cases out.toList <;> rfl, eo]
 ·rw [if_neg hb] at h; cases h

def impl_FormatLin.l0 : Nat → Int → List Int → List ByteArray → ByteArray → Int → Option ByteArray
 | 0, _, _, _, _, _ => none
 | k + 1, a, cs, ns, out, x => if x < (cs.length : Int) then (if 0 ≤ x then (if rd cs x = 0 then (impl_FormatLin.l0 k a cs ns out (wrap64 (x + 1))) else (if x < (ns.length : Int) then ((fl_step (rd cs x) (rdOf ByteArray.empty ns x) out).bind fun o => (impl_FormatLin.l0 k a cs ns o (wrap64 (x + 1)))) else (none))) else (none)) else (if a = 0 then (if out = (⟨#[]⟩ : ByteArray) then (fl_step a (⟨#[]⟩ : ByteArray) out) else (some out)) else (fl_step a (⟨#[]⟩ : ByteArray) out))
def impl_FormatLin.f (k : Nat) (a0_0 : Int) (l0_1 : List Int) (l1 : List ByteArray) : Option ByteArray := (impl_IsValidLin.f k a0_0 l0_1 (l1.length : Int)).bind fun t1 => (if t1 = true then ((impl_AllDistinct.f k l1).bind fun t2 => (if t2 = true then ((slices_ContainsFunc_string_string__FormatLin_1.f k l1 ()).bind fun t3 => (if t3 = true then (some (⟨#[]⟩ : ByteArray)) else (impl_FormatLin.l0 k a0_0 l0_1 l1 (⟨#[]⟩ : ByteArray) 0))) else (some (⟨#[]⟩ : ByteArray)))) else (some (⟨#[]⟩ : ByteArray)))
theorem impl_FormatLin.mono_l : ∀ k, (∀ y0 y1 y2 y3 y4, LeO (impl_FormatLin.l0 k y0 y1 y2 y3 y4) (impl_FormatLin.l0 (k + 1) y0 y1 y2 y3 y4))
 | 0 => fun _ _ _ _ _ r h => by simp [impl_FormatLin.l0] at h
 | k + 1 => by
  have ih0 := impl_FormatLin.mono_l k
  intro y0 y1 y2 y3 y4
  unfold impl_FormatLin.l0
  repeat' first
   | (with_reducible exact ih0 _ _ _ _ _)
   | (with_reducible exact LeO.refl _)
   | (with_reducible exact LeO.none _)
   | (with_reducible refine LeO.ite ?_ ?_)
   | (with_reducible refine LeO.bind ?_ (fun _ => ?_))
theorem impl_FormatLin.mono : ∀ a0 a1 a2 k, LeO (impl_FormatLin.f k a0 a1 a2) (impl_FormatLin.f (k + 1) a0 a1 a2) := by
 intro a0 a1 a2 k
 have ih0 := impl_FormatLin.mono_l k
 unfold impl_FormatLin.f
 repeat' first
  | (with_reducible exact ih0 _ _ _ _ _)
  | (with_reducible exact impl_IsValidLin.mono _ _ _ _)
  | (with_reducible exact impl_AllDistinct.mono _ _)
  | (with_reducible exact slices_ContainsFunc_string_string__FormatLin_1.mono _ _ _)
  | (with_reducible exact LeO.refl _)
  | (with_reducible exact LeO.none _)
  | (with_reducible refine LeO.ite ?_ ?_)
  | (with_reducible refine LeO.bind ?_ (fun _ => ?_))
set_option maxHeartbeats 8000000 in
set_option maxRecDepth 100000 in
theorem impl_FormatLin.calls (k : Nat) (a0_0 : Int) (A0_1 : Option Addr) (c0_1 : Nat) (l0_1 : List Int) (A1 : Option Addr) (c1 : Nat) (l1 : List ByteArray) (r : ByteArray) (w : World) (hr0_1 : Kd.C (Kd.int .i64) w A0_1 l0_1.length l0_1) (hc0_1 : l0_1.length ≤ c0_1) (hr1 : Kd.C Kd.string w A1 l1.length l1) (hc1 : l1.length ≤ c1) (h : impl_FormatLin.f k a0_0 l0_1 l1 = some r) (hTb_ : TbL w := by first | assumption | ((with_reducible repeat (first | apply tb_alloc | apply tb_drewN | apply tb_drew)); first | assumption | exact tb_of (by assumption) (by assumption) | exact tb_of (by assumption) ⟨below_set (below_set (Aside0.out (by assumption)) (Aside0.out (by assumption))) (Aside0.out (by assumption))⟩)) :
  Calls Tryz.prog 19 #[.agg #[.int .i64 a0_0, .slice A0_1 l0_1.length c0_1], .slice A1 l1.length c1] w fun e w' => e = .returned (.string r) ∧ Below w.heap.size w w' := by
 have huL := Tryz.underlying26
 have hmf : ∀ (fn : Fn) (first cap : Array Value) (w : World), (Instr.makeFunc fn first cap).run Tryz.prog w = .ok (.func fn first cap) w := fun _ _ _ _ => rfl
 have HR0_1 := Aside0.mk hr0_1
 have HC0_1 := Aside0.mk hc0_1
 have HR1 := Aside0.mk hr1
 have HC1 := Aside0.mk hc1
 have HT := Aside0.mk hTb_
 clear hr0_1 hc0_1 hr1 hc1 hTb_
 have H : ((impl_IsValidLin.f k a0_0 l0_1 (l1.length : Int)).bind fun t1 => (if t1 = true then ((impl_AllDistinct.f k l1).bind fun t2 => (if t2 = true then ((slices_ContainsFunc_string_string__FormatLin_1.f k l1 ()).bind fun t3 => (if t3 = true then (some (⟨#[]⟩ : ByteArray)) else (impl_FormatLin.l0 k a0_0 l0_1 l1 (⟨#[]⟩ : ByteArray) 0))) else (some (⟨#[]⟩ : ByteArray)))) else (some (⟨#[]⟩ : ByteArray)))) = some r := h
 clear h
 obtain ⟨t1, A10, H⟩ := Option.bind_eq_some_iff.mp H
 have A1_ := Aside0.mk A10
 clear A10
 cases t1 with
 | false =>
  obtain rfl := Option.some.inj H
  go_enter Tryz.func19, Tryz.ntmps19
  go_wp2_with (go_at_call 43; refine (impl_IsValidLin.calls k a0_0 _ _ l0_1 (l1.length : Int) false _ (Kd.C_alloc HR0_1.out _) HC0_1.out A1_.out).mono ?_; rintro e w10 ⟨rfl, hb2⟩; have HB2 := Aside0.mk (below_step (below_alloc (Below.refl w.heap.size w) _) hb2); have HX2 := Aside0.mk ((hb2.block w.heap.size (by simp)).trans (heap_alloc_new w (.cells #[.int .i64 a0_0, .slice A0_1 l0_1.length c0_1] 26))); clear hb2)
  go_ret
  exact ⟨rfl, HB2.out⟩
 | true =>
  replace H : ((impl_AllDistinct.f k l1).bind fun t2 => (if t2 = true then ((slices_ContainsFunc_string_string__FormatLin_1.f k l1 ()).bind fun t3 => (if t3 = true then (some (⟨#[]⟩ : ByteArray)) else (impl_FormatLin.l0 k a0_0 l0_1 l1 (⟨#[]⟩ : ByteArray) 0))) else (some (⟨#[]⟩ : ByteArray)))) = some r := H
  obtain ⟨t2, A20, H⟩ := Option.bind_eq_some_iff.mp H
  have A2_ := Aside0.mk A20
  clear A20
  cases t2 with
  | false =>
   obtain rfl := Option.some.inj H
   go_enter Tryz.func19, Tryz.ntmps19
   go_wp2_with (first | (go_at_call 43; refine (impl_IsValidLin.calls k a0_0 _ _ l0_1 (l1.length : Int) true _ (Kd.C_alloc HR0_1.out _) HC0_1.out A1_.out).mono ?_; rintro e w10 ⟨rfl, hb2⟩; have HB2 := Aside0.mk (below_step (below_alloc (Below.refl w.heap.size w) _) hb2); have HX2 := Aside0.mk ((hb2.block w.heap.size (by simp)).trans (heap_alloc_new w (.cells #[.int .i64 a0_0, .slice A0_1 l0_1.length c0_1] 26))); clear hb2) | (go_at_call 44; refine (impl_AllDistinct.calls k _ _ l1 false _ (Kd.C_below HR1.out HB2.out) HC1.out A2_.out).mono ?_; rintro e w11 ⟨rfl, hd⟩; have HB3 := Aside0.mk (below_step HB2.out hd.below); have HX3 := Aside0.mk ((hd.below.block w.heap.size (lt_of_block HX2.out)).trans HX2.out); clear hd))
   go_ret
   exact ⟨rfl, HB3.out⟩
  | true =>
   replace H : ((slices_ContainsFunc_string_string__FormatLin_1.f k l1 ()).bind fun t3 => (if t3 = true then (some (⟨#[]⟩ : ByteArray)) else (impl_FormatLin.l0 k a0_0 l0_1 l1 (⟨#[]⟩ : ByteArray) 0))) = some r := H
   obtain ⟨t3, A30, H⟩ := Option.bind_eq_some_iff.mp H
   have A3_ := Aside0.mk A30
   clear A30
   cases t3 with
   | true =>
    obtain rfl := Option.some.inj H
    go_enter Tryz.func19, Tryz.ntmps19
    go_wp2_with (first | (go_at_call 43; refine (impl_IsValidLin.calls k a0_0 _ _ l0_1 (l1.length : Int) true _ (Kd.C_alloc HR0_1.out _) HC0_1.out A1_.out).mono ?_; rintro e w10 ⟨rfl, hb2⟩; have HB2 := Aside0.mk (below_step (below_alloc (Below.refl w.heap.size w) _) hb2); have HX2 := Aside0.mk ((hb2.block w.heap.size (by simp)).trans (heap_alloc_new w (.cells #[.int .i64 a0_0, .slice A0_1 l0_1.length c0_1] 26))); clear hb2) | (go_at_call 44; refine (impl_AllDistinct.calls k _ _ l1 true _ (Kd.C_below HR1.out HB2.out) HC1.out A2_.out).mono ?_; rintro e w11 ⟨rfl, hd⟩; have HB3 := Aside0.mk (below_step HB2.out hd.below); have HX3 := Aside0.mk ((hd.below.block w.heap.size (lt_of_block HX2.out)).trans HX2.out); clear hd) | (go_at_call 45; refine (slices_ContainsFunc_string_string__FormatLin_1.calls k _ _ l1 () true _ (Kd.C_below HR1.out HB3.out) HC1.out A3_.out).mono ?_; rintro e w12 ⟨rfl, hd⟩; have HB4 := Aside0.mk (below_step HB3.out hd.below); have HX4 := Aside0.mk ((hd.below.block w.heap.size (lt_of_block HX3.out)).trans HX3.out); clear hd))
    go_ret
    exact ⟨rfl, HB4.out⟩
   | false =>
    have H' : Aside0 (impl_FormatLin.l0 k a0_0 l0_1 l1 (⟨#[]⟩ : ByteArray) 0 = some r) := ⟨H⟩
    clear H
    go_enter Tryz.func19, Tryz.ntmps19
    go_wp2_with (first | (go_at_call 43; refine (impl_IsValidLin.calls k a0_0 _ _ l0_1 (l1.length : Int) true _ (Kd.C_alloc HR0_1.out _) HC0_1.out A1_.out).mono ?_; rintro e w10 ⟨rfl, hb2⟩; have HB2 := Aside0.mk (below_step (below_alloc (Below.refl w.heap.size w) _) hb2); have HX2 := Aside0.mk ((hb2.block w.heap.size (by simp)).trans (heap_alloc_new w (.cells #[.int .i64 a0_0, .slice A0_1 l0_1.length c0_1] 26))); clear hb2) | (go_at_call 44; refine (impl_AllDistinct.calls k _ _ l1 true _ (Kd.C_below HR1.out HB2.out) HC1.out A2_.out).mono ?_; rintro e w11 ⟨rfl, hd⟩; have HB3 := Aside0.mk (below_step HB2.out hd.below); have HX3 := Aside0.mk ((hd.below.block w.heap.size (lt_of_block HX2.out)).trans HX2.out); clear hd) | (go_at_call 45; refine (slices_ContainsFunc_string_string__FormatLin_1.calls k _ _ l1 () false _ (Kd.C_below HR1.out HB3.out) HC1.out A3_.out).mono ?_; rintro e w12 ⟨rfl, hd⟩; have HB4 := Aside0.mk (below_step HB3.out hd.below); have HX4 := Aside0.mk ((hd.below.block w.heap.size (lt_of_block HX3.out)).trans HX3.out); clear hd; have hz1 : (w12.alloc (.cells #[.string ⟨#[]⟩] 9)).cell? ⟨w.heap.size, 1, none⟩ = some (.slice A0_1 l0_1.length c0_1) := (by rw [World.cell?_alloc_past _ _ _ (lt_of_block HX4.out)]; simp [World.cell?, HX4.out])))
    go_loopg [27] k (fun kq v27 w' => ∃ (x : Int) (out : ByteArray), v27 = .int .i64 x ∧ Aside0 (impl_FormatLin.l0 kq a0_0 l0_1 l1 out x = some r) ∧ Aside0 (kq ≤ k) ∧ Aside0 (w'.heap[w12.heap.size]? = some (.cells #[.string out] 9 (0, 0))) ∧ Aside0 (Below w.heap.size w w') ∧ Aside0 (Below w12.heap.size w12 w'))
    case atStart => exact ⟨0, ⟨#[]⟩, rfl, H', ⟨Nat.le_refl _⟩, ⟨by first | exact heap_alloc_new _ _ | exact one_setCell (heap_alloc_new _ _)⟩, ⟨by first | exact below_alloc HB4.out _ | exact (below_alloc HB4.out _).setCell HB4.out.size _⟩, ⟨by first | exact below_alloc (Below.refl _ _) _ | exact (below_alloc (Below.refl _ _) _).setCell (Nat.le_refl _) _⟩⟩
    case round =>
     clear H'
     obtain ⟨x, out, rfl, HA, HK1, HO, HB, HBA⟩ := hrel
     have HTA : TbL w12 := tb_of HT.out HB4
     have hlto := lt_of_block HO.out
     cases gk with
     | zero => exact absurd HA.out (by simp [impl_FormatLin.l0])
     | succ k1 =>
      have H := HA.out
      clear HA
      simp only [impl_FormatLin.l0] at H
      by_cases c3 : x < (l0_1.length : Int)
      ·rw [if_pos c3] at H
       have c3b0 : decide (x < (l0_1.length : Int)) = true := decide_eq_true c3
       by_cases c4 : 0 ≤ x
       ·rw [if_pos c4] at H
        have c4b0 : decide (0 ≤ x) = true := decide_eq_true c4
        obtain ⟨ad1, e1, hx1⟩ := Kd.at_int (Kd.C_below HR0_1.out HB.out) x c4 c3
        cases e1
        by_cases c5 : rd l0_1 x = 0
        ·rw [if_pos c5] at H
         have c5b0 : (rd l0_1 x == 0) = true := beq_iff_eq.mpr c5
         have c5b1 : (rd l0_1 x != 0) = false := bne_eq_false_iff_eq.mpr c5
         have H' := Aside0.mk H
         clear H c5
         replace c3 := eq_true c3
         replace c4 := eq_true c4
         go_wp2
         go_roundg k1
         case measure => have := HK1.out; omega
         case rel => exact ⟨(wrap64 (x + 1)), out, (by first | rfl | (simp; done) | (simp [*]; done)), H', ⟨by have := HK1.out; omega⟩, HO, HB, HBA⟩
        ·rw [if_neg c5] at H
         have c5b0 : (rd l0_1 x == 0) = false := beq_eq_false_iff_ne.mpr c5
         have c5b1 : (rd l0_1 x != 0) = true := bne_iff_ne.mpr c5
         by_cases c6 : x < (l1.length : Int)
         ·rw [if_pos c6] at H
          have c6b0 : decide (x < (l1.length : Int)) = true := decide_eq_true c6
          obtain ⟨o2, S2, H⟩ := Option.bind_eq_some_iff.mp H
          obtain ⟨ad2, e2, hx2⟩ := Kd.at_string (Kd.C_below HR1.out HB.out) x c4 c6
          cases e2
          have H' := Aside0.mk H
          have S2_ := Aside0.mk S2
          clear H c5 S2
          replace c3 := eq_true c3
          replace c4 := eq_true c4
          replace c6 := eq_true c6
          go_wp2_with (go_at_call 48; refine (fl_calls w12.heap.size _ _ out o2 w12 _ HBA.out (Nat.le_refl _) HO.out S2_.out HTA).mono ?_; rintro e w13 ⟨rfl, ho2, hb2⟩; have HO2 := Aside0.mk ho2; have HBA2 := Aside0.mk hb2; have HB2' := Aside0.mk (HB4.out.trans (hb2.mono HB4.out.size)); clear ho2 hb2)
          go_roundg k1
          case measure => have := HK1.out; omega
          case rel => exact ⟨(wrap64 (x + 1)), o2, (by first | rfl | (simp; done) | (simp [*]; done)), H', ⟨by have := HK1.out; omega⟩, HO2, HB2', HBA2⟩
         ·rw [if_neg c6] at H; cases H
       ·rw [if_neg c4] at H; cases H
      ·rw [if_neg c3] at H
       have c3b0 : decide (x < (l0_1.length : Int)) = false := decide_eq_false c3
       clear c3
       have HXr : wr.heap[w.heap.size]? = some (.cells #[.int .i64 a0_0, .slice A0_1 l0_1.length c0_1] 26 (0, 0)) := (HBA.out.block w.heap.size (lt_of_block HX4.out)).trans HX4.out
       have hz0 : wr.cell? ⟨w.heap.size, 0, none⟩ = some (.int .i64 a0_0) := by simp [World.cell?, HXr]
       have hco := cell_of_one HO.out
       have eo : (out.toList == ([] : List UInt8)) = decide (out = ⟨#[]⟩) := fl_eq out []
       have eo2 : out.toList.isEmpty = decide (out = ⟨#[]⟩) := by rw [show out.toList.isEmpty = (out.toList == []) from by cases out.toList <;> rfl, eo]
       by_cases ha : a0_0 = 0
       ·rw [if_pos ha] at H
        have c7b0 : (a0_0 == 0) = true := beq_iff_eq.mpr ha
        have c7b1 : (a0_0 != 0) = false := bne_eq_false_iff_eq.mpr ha
        clear ha
        by_cases ho : out = (⟨#[]⟩ : ByteArray)
        ·rw [if_pos ho] at H
         rw [decide_eq_true ho] at eo eo2
         have S2_ := Aside0.mk H
         clear H ho
         go_wp2_with (go_at_call 48; refine (fl_calls w12.heap.size _ _ out r w12 _ HBA.out (Nat.le_refl _) HO.out S2_.out HTA).mono ?_; rintro e w13 ⟨rfl, ho2, hb2⟩; have hco2 := cell_of_one ho2; have HB2' := Aside0.mk (HB4.out.trans (hb2.mono HB4.out.size)); clear ho2 hb2)
         go_ret
         exact ⟨rfl, HB2'.out⟩
        ·rw [if_neg ho] at H
         rw [decide_eq_false ho] at eo eo2
         obtain rfl := Option.some.inj H
         clear ho
         go_wp2
         go_ret
         exact ⟨rfl, HB.out⟩
       ·rw [if_neg ha] at H
        have c7b0 : (a0_0 == 0) = false := beq_eq_false_iff_ne.mpr ha
        have c7b1 : (a0_0 != 0) = true := bne_iff_ne.mpr ha
        clear ha
        have S2_ := Aside0.mk H
        clear H eo eo2
        go_wp2_with (go_at_call 48; refine (fl_calls w12.heap.size _ _ out r w12 _ HBA.out (Nat.le_refl _) HO.out S2_.out HTA).mono ?_; rintro e w13 ⟨rfl, ho2, hb2⟩; have hco2 := cell_of_one ho2; have HB2' := Aside0.mk (HB4.out.trans (hb2.mono HB4.out.size)); clear ho2 hb2)
        go_ret
        exact ⟨rfl, HB2'.out⟩

def strings_Split.f (a0 : ByteArray) (a1 : ByteArray) : Option (List ByteArray) := if a0.size < 4294967281 ∧ 1 ≤ a1.size ∧ Lib.countB a0 a1 ≤ 4294967296 then some (Lib.splitB a1 0 (Lib.countB a0 a1) a0) else none
theorem strings_Split.calls (a0 : ByteArray) (a1 : ByteArray) (r : List ByteArray) (w : World) (h : strings_Split.f a0 a1 = some r) (hTb_ : TbL w := by first | assumption | ((with_reducible repeat (first | apply tb_alloc | apply tb_drewN | apply tb_drew)); first | assumption | exact tb_of (by assumption) (by assumption) | exact tb_of (by assumption) ⟨below_set (below_set (Aside0.out (by assumption)) (Aside0.out (by assumption))) (Aside0.out (by assumption))⟩)) :
  Calls Tryz.prog 57 #[.string a0, .string a1] w fun e w' => ∃ v0_ : Value, e = .returned (v0_) ∧ Kd.R Kd.string 9 w' w.heap.size (fun _ => True) v0_ r ∧ Below w.heap.size w w' := by
 unfold strings_Split.f at h
 split at h
 ·rename_i hb
  obtain rfl := Option.some.inj h
  obtain ⟨m, hm⟩ := hTb_.2.2 0 (by simp)
  have hl := Lib.splitB_all a1 hb.2.1 0 (Lib.countB a0 a1) a0 rfl
  refine (Tryz.strings_Split a0 a1 m w hb.1 hm hb.2.1).mono ?_
  rintro e w' ⟨rfl, rfl⟩
  refine ⟨_, rfl, Kd.R_of_own (enc := Value.string) (h1 := fun _ => rfl) ?_ (fun _ _ => trivial), below_alloc (Below.refl _ _) _⟩
  refine ⟨by simp [encs], .inr ⟨w.heap.size, Lib.countB a0 a1 + 1, ((Lib.splitB a1 0 (Lib.countB a0 a1) a0).map Value.string).toArray, by rw [hl], Nat.le_refl _, heap_alloc_new _ _, by rw [hl]; exact Nat.le_refl _, by unfold maxLen; omega, by simp [hl], ?_⟩⟩
  rw [Nat.mul_one, List.toList_toArray, List.take_of_length_le (by simp)]
  simp [encs]
 ·cases h

def strings_HasPrefix.f (a0 : ByteArray) (a1 : ByteArray) : Option (Bool) := some (Lib.hasPrefix a0.data.toList a1.data.toList)
theorem strings_HasPrefix.calls (a0 : ByteArray) (a1 : ByteArray) (r : Bool) (w : World) (h : strings_HasPrefix.f a0 a1 = some r) :
  Calls Tryz.prog 58 #[.string a0, .string a1] w fun e w' => e = .returned (.bool r) ∧ Drawn0 w w' := by
 obtain rfl := Option.some.inj h
 exact (Tryz.strings_HasPrefix a0 a1 w).mono fun e w' ⟨he, hw⟩ => ⟨he, hw ▸ Drawn0.refl _⟩

end Go.Proofs.YtmdjhmggogfbdaaGreatDoor.QFnLinText
