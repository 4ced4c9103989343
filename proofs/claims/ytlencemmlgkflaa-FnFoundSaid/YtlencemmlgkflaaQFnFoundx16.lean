-- Made by a program of this claim's own (wip/print): not the kit's print as it stands.
import Derived.Test.YtlencemmlgkflaaUFnFoundTri
import Derived.Test.YtlencemmlgkflaaQFnFoundx0
import Derived.Test.YtlencemmlgkflaaQFnFoundx1
import Derived.Test.YtlencemmlgkflaaQFnFoundx5
import Derived.Test.YtlencemmlgkflaaQFnFoundx6
import Derived.Test.YtlencemmlgkflaaQFnFoundx15
namespace Go.Proofs.Ytlencemmlgkflaa.QFnFound
open Go.RowKit Go.Proofs.YtlencemmlgkflaaV.PrintWords Go.Proofs.YtlencemmlgkflaaV.PrintLast Go.Proofs.YtlencemmlgkflaaV.PrintMore
attribute [local go_sem] max2_int min2_int max_two min_two max_three min_three max_four min_four   -- for this text's walks alone
set_option linter.unusedVariables false
set_option linter.unusedSimpArgs false

/-! ### spec_Gcd: function 153 -/
mutual
def spec_Gcd.j0 : Nat → Int → Int → Bool → Option (Int)
 | 0, _, _, _ => none
 | k + 1, x0, x1, x15 => if x15 = true then (some 0) else ((spec_l3Size.f x0).bind fun t463 => ((spec_l3Size.f x1).bind fun t464 => (spec_Gcd.l0 k t463 t464)))
def spec_Gcd.l0 : Nat → Int → Int → Option (Int)
 | 0, _, _ => none
 | k + 1, x5, x6 => if x6 > 0 then (if x6 = 0 then (none) else (spec_Gcd.l0 k x6 (Int.tmod x5 x6))) else (some x5)
end
def spec_Gcd.f (k : Nat) (a0 : Int) (a1 : Int) : Option (Int) := (spec_l3In.f a0).bind fun t461 => (if t461 = true then ((spec_l3In.f a1).bind fun t462 => (spec_Gcd.j0 k a0 a1 (!t462))) else (spec_Gcd.j0 k a0 a1 true))
theorem spec_Gcd.mono_l : ∀ k, (∀ y0 y1 y2, LeO (spec_Gcd.j0 k y0 y1 y2) (spec_Gcd.j0 (k + 1) y0 y1 y2)) ∧ (∀ y0 y1, LeO (spec_Gcd.l0 k y0 y1) (spec_Gcd.l0 (k + 1) y0 y1))
 | 0 => ⟨fun _ _ _ r h => by simp [spec_Gcd.j0] at h, fun _ _ r h => by simp [spec_Gcd.l0] at h⟩
 | k + 1 => by
  obtain ⟨ih0, ih1⟩ := spec_Gcd.mono_l k
  refine ⟨?_, ?_⟩
  ·intro y0 y1 y2
   unfold spec_Gcd.j0
   repeat' with_reducible first
   | exact ih0 _ _ _
   | exact ih1 _ _
   | exact LeO.refl _
   | exact LeO.none _
   | refine LeO.ite ?_ ?_
   | refine LeO.bind ?_ (fun _ => ?_)
  intro y0 y1
  unfold spec_Gcd.l0
  repeat' with_reducible first
  | exact ih0 _ _ _
  | exact ih1 _ _
  | exact LeO.refl _
  | exact LeO.none _
  | refine LeO.ite ?_ ?_
  | refine LeO.bind ?_ (fun _ => ?_)
theorem spec_Gcd.mono : ∀ a0 a1 k, LeO (spec_Gcd.f k a0 a1) (spec_Gcd.f (k + 1) a0 a1) := by
 intro a0 a1 k
 obtain ⟨ih0, ih1⟩ := spec_Gcd.mono_l k
 unfold spec_Gcd.f
 repeat' with_reducible first
 | exact ih0 _ _ _
 | exact ih1 _ _
 | exact LeO.refl _
 | exact LeO.none _
 | refine LeO.ite ?_ ?_
 | refine LeO.bind ?_ (fun _ => ?_)
set_option maxHeartbeats 8000000 in
set_option maxRecDepth 100000 in
theorem spec_Gcd.calls (k : Nat) (a0 : Int) (a1 : Int) (r : Int) (w : World) (h : spec_Gcd.f k a0 a1 = some r) :
  Calls Try.prog 153 #[.int .i64 a0, .int .i64 a1] w fun e w' => e = .returned (.int .i64 r) ∧ Drawn0 w w' := by
 have H : ((spec_l3In.f a0).bind fun t461 => (if t461 = true then ((spec_l3In.f a1).bind fun t462 => (spec_Gcd.j0 k a0 a1 (!t462))) else (spec_Gcd.j0 k a0 a1 true))) = some r := h
 clear h
 have HC3 := Aside0.mk H
 clear H
 go_enter Try.func153, Try.ntmps153
 go_upto_region 1 with (fail)
 go_cut [15] (fun v15 wc => ∃ (kq : Nat) (x15_2 : Bool), v15 = .bool x15_2 ∧ Aside0 (spec_Gcd.j0 kq a0 a1 x15_2 = some r) ∧ Aside0 (kq ≤ k) ∧ Drawn0 w wc)
 case first =>
  have H := HC3.out
  clear HC3
  replace H := Option.bind_eq_some_iff.mp H
  obtain ⟨t461, A40, H⟩ := H
  replace H : (if t461 = true then ((spec_l3In.f a1).bind fun t462 => (spec_Gcd.j0 k a0 a1 (!t462))) else (spec_Gcd.j0 k a0 a1 true)) = some r := H
  have A4 := Aside0.mk A40
  clear A40
  by_cases c5 : t461 = true
  ·subst c5
   have H1 : ((spec_l3In.f a1).bind fun t462 => (spec_Gcd.j0 k a0 a1 (!t462))) = some r := by rw [if_pos rfl] at H; exact H
   clear H
   have H := H1
   clear H1
   replace H := Option.bind_eq_some_iff.mp H
   obtain ⟨t462, A60, H⟩ := H
   replace H : (spec_Gcd.j0 k a0 a1 (!t462)) = some r := H
   have A6 := Aside0.mk A60
   clear A60
   have H' := Aside0.mk H
   clear H
   go_wp2_with (first | ((with_reducible refine gate_callee (f := 129) rfl ?_); refine gl (some 9) rfl rfl Try.func129 (by kernel_rfl) rfl #[.int .i64 a0] rfl ?_; (with_reducible refine (spec_l3In.calls a0 true _ A4.out).mono ?_); rintro e w' ⟨rfl, ⟨nd, rfl⟩⟩; refine ⟨_, rfl, ?_⟩) | (go_at_call 129; (with_reducible refine (spec_l3In.calls a1 t462 _ A6.out).mono ?_); rintro e w' ⟨rfl, ⟨nd, rfl⟩⟩))
   go_meet
   case rel => exact ⟨_, (!t462), (by first | rfl | (simp; done) | (simp [*]; done)), H', ⟨by first | omega | exact Nat.le_refl _⟩, by repeat (first | exact Drawn0.refl _ | apply Drawn0.step)⟩
  replace c5 := Bool.eq_false_iff.mpr c5
  subst c5
  have H1 : (spec_Gcd.j0 k a0 a1 true) = some r := by rw [if_neg (show ¬ (false = true) by decide)] at H; exact H
  clear H
  have H := H1
  clear H1
  have H' := Aside0.mk H
  clear H
  go_wp2_with (first | ((with_reducible refine gate_callee (f := 129) rfl ?_); refine gl (some 9) rfl rfl Try.func129 (by kernel_rfl) rfl #[.int .i64 a0] rfl ?_; (with_reducible refine (spec_l3In.calls a0 false _ A4.out).mono ?_); rintro e w' ⟨rfl, ⟨nd, rfl⟩⟩; refine ⟨_, rfl, ?_⟩))
  go_meet
  case rel => exact ⟨_, (true), (by first | rfl | (simp; done) | (simp [*]; done)), H', ⟨by first | omega | exact Nat.le_refl _⟩, by repeat (first | exact Drawn0.refl _ | apply Drawn0.step)⟩
 case rest =>
  clear HC3
  try clear c1
  try clear p2
  try clear c5
  obtain ⟨kq, x15_2, rfl, HA, HJ2, ⟨mc2, rfl⟩⟩ := hcut
  cases kq with
  | zero => exact absurd HA.out (by simp [spec_Gcd.j0])
  | succ kj2 =>
   have H := HA.out
   clear HA
   simp only [spec_Gcd.j0] at H
   by_cases c7 : x15_2 = true
   ·subst c7
    have H1 : (some 0) = some r := by rw [if_pos rfl] at H; exact H
    clear H
    have H := H1
    clear H1
    obtain rfl := Option.some.inj H
    go_wp2
    go_ret
    exact ⟨by first | rfl | (simp; done) | (simp [*]; done), by repeat (first | exact Drawn0.refl _ | apply Drawn0.step)⟩
   replace c7 := Bool.eq_false_iff.mpr c7
   subst c7
   have H1 : ((spec_l3Size.f a0).bind fun t463 => ((spec_l3Size.f a1).bind fun t464 => (spec_Gcd.l0 kj2 t463 t464))) = some r := by rw [if_neg (show ¬ (false = true) by decide)] at H; exact H
   clear H
   have H := H1
   clear H1
   replace H := Option.bind_eq_some_iff.mp H
   obtain ⟨t463, A80, H⟩ := H
   replace H : ((spec_l3Size.f a1).bind fun t464 => (spec_Gcd.l0 kj2 t463 t464)) = some r := H
   have A8 := Aside0.mk A80
   clear A80
   replace H := Option.bind_eq_some_iff.mp H
   obtain ⟨t464, A90, H⟩ := H
   replace H : (spec_Gcd.l0 kj2 t463 t464) = some r := H
   have A9 := Aside0.mk A90
   clear A90
   have H' := Aside0.mk H
   clear H
   go_wp2_with (first | ((with_reducible refine gate_callee (f := 168) rfl ?_); refine gl (some 17) rfl rfl Try.func168 (by kernel_rfl) rfl #[.int .i64 a0] rfl ?_; (with_reducible refine (spec_l3Size.calls a0 t463 _ A8.out).mono ?_); rintro e w' ⟨rfl, ⟨nd, rfl⟩⟩; refine ⟨_, rfl, ?_⟩) | ((with_reducible refine gate_callee (f := 168) rfl ?_); refine gl (some 19) rfl rfl Try.func168 (by kernel_rfl) rfl #[.int .i64 a1] rfl ?_; (with_reducible refine (spec_l3Size.calls a1 t464 _ A9.out).mono ?_); rintro e w' ⟨rfl, ⟨nd, rfl⟩⟩; refine ⟨_, rfl, ?_⟩))
   go_loopg [5, 6] kj2 (fun kq v5 v6 w' => ∃ (x5_2 : Int) (x6_2 : Int), v5 = .int .i64 x5_2 ∧ v6 = .int .i64 x6_2 ∧ Aside0 (spec_Gcd.l0 kq x5_2 x6_2 = some r) ∧ Aside0 (kq ≤ kj2) ∧ Drawn0 w w')
   case atStart => exact ⟨(t463), (t464), (by first | rfl | (simp; done) | (simp [*]; done)), (by first | rfl | (simp; done) | (simp [*]; done)), H', ⟨Nat.le_refl _⟩, by repeat (first | exact Drawn0.refl _ | apply Drawn0.step)⟩
   case round =>
    clear H'
    try clear c1
    try clear c2
    try clear p2
    try clear c5
    try clear c7
    try clear p2
    obtain ⟨x5_2, x6_2, rfl, rfl, HA, HK2, ⟨m2, rfl⟩⟩ := hrel
    cases gk with
    | zero => exact absurd HA.out (by simp [spec_Gcd.l0])
    | succ k2 =>
     have H := HA.out
     clear HA
     simp only [spec_Gcd.l0] at H
     by_cases c10 : x6_2 > 0
     ·rw [if_pos c10] at H
      have c10b0 : decide (0 < x6_2) = true := decide_eq_true c10
      clear c10
      by_cases c11 : x6_2 = 0
      ·rw [if_pos c11] at H
       exact absurd H (by simp)
      rw [if_neg c11] at H
      have c11b0 : (x6_2 == 0) = false := beq_eq_false_iff_ne.mpr c11
      have c11b1 : (x6_2 != 0) = true := bne_iff_ne.mpr c11
      have H' := Aside0.mk H
      clear H
      go_wp2
      go_roundg k2
      case measure => have := HJ2.out; have := HK2.out; omega
      case rel => exact ⟨(x6_2), (Int.tmod x5_2 x6_2), (by first | rfl | (simp; done) | (simp [*]; done)), (by first | rfl | (simp; done) | (simp [*]; done)), H', ⟨by have := HJ2.out; have := HK2.out; omega⟩, by repeat (first | exact Drawn0.refl _ | apply Drawn0.step)⟩
     rw [if_neg c10] at H
     have c10b0 : decide (0 < x6_2) = false := decide_eq_false c10
     clear c10
     obtain rfl := Option.some.inj H
     go_wp2
     go_ret
     exact ⟨by first | rfl | (simp; done) | (simp [*]; done), by repeat (first | exact Drawn0.refl _ | apply Drawn0.step)⟩

/-! ### spec_l8Scaled: function 154 -/
def spec_l8Scaled.l0 : Nat → List Int → Int → List Int → Int → List Int → Int → Option (List Int × Bool)
 | 0, _, _, _, _, _, _ => none
 | k + 1, x0, x1, x2, x3, x10, x11 => if x11 < (x0.length : Int) then (if 0 ≤ x11 then ((spec_MulLimited.f (rd x0 x11) x1).bind fun bt469 => (if x11 < (x2.length : Int) then ((spec_MulLimited.f (rd x2 x11) x3).bind fun bt472 => ((spec_AddLimited.f bt469.1 bt472.1).bind fun bt474 => (if bt469.2 = true then (if bt472.2 = true then (if bt474.2 = true then (if x10.length < 17592186044416 then (spec_l8Scaled.l0 k x0 x1 x2 x3 (x10 ++ [bt474.1]) (wrap64 (x11 + 1))) else (none)) else (some ((([] : List Int)), false))) else (some ((([] : List Int)), false))) else (some ((([] : List Int)), false))))) else (none))) else (none)) else (some (x10, true))
def spec_l8Scaled.f (k : Nat) (l0 : List Int) (a1 : Int) (l2 : List Int) (a3 : Int) : Option (List Int × Bool) := spec_l8Scaled.l0 k l0 a1 l2 a3 (([] : List Int)) 0
theorem spec_l8Scaled.mono_l : ∀ k, (∀ y0 y1 y2 y3 y4 y5, LeO (spec_l8Scaled.l0 k y0 y1 y2 y3 y4 y5) (spec_l8Scaled.l0 (k + 1) y0 y1 y2 y3 y4 y5))
 | 0 => fun _ _ _ _ _ _ r h => by simp [spec_l8Scaled.l0] at h
 | k + 1 => by
  have ih0 := spec_l8Scaled.mono_l k
  ·intro y0 y1 y2 y3 y4 y5
   unfold spec_l8Scaled.l0
   repeat' with_reducible first
   | exact ih0 _ _ _ _ _ _
   | exact LeO.refl _
   | exact LeO.none _
   | refine LeO.ite ?_ ?_
   | refine LeO.bind ?_ (fun _ => ?_)
theorem spec_l8Scaled.mono : ∀ a0 a1 a2 a3 k, LeO (spec_l8Scaled.f k a0 a1 a2 a3) (spec_l8Scaled.f (k + 1) a0 a1 a2 a3) := by
 intro a0 a1 a2 a3 k
 have ih0 := spec_l8Scaled.mono_l k
 unfold spec_l8Scaled.f
 repeat' with_reducible first
 | exact ih0 _ _ _ _ _ _
 | exact LeO.refl _
 | exact LeO.none _
 | refine LeO.ite ?_ ?_
 | refine LeO.bind ?_ (fun _ => ?_)
set_option maxHeartbeats 8000000 in
set_option maxRecDepth 100000 in
theorem spec_l8Scaled.calls (k : Nat) (A0 : Option Addr) (c0 : Nat) (l0 : List Int) (a1 : Int) (A2 : Option Addr) (c2 : Nat) (l2 : List Int) (a3 : Int) (r1 : List Int) (r2 : Bool) (w : World) (hr0 : Kd.C (Kd.int .i64) w A0 l0.length l0) (hc0 : l0.length ≤ c0) (hr2 : Kd.C (Kd.int .i64) w A2 l2.length l2) (hc2 : l2.length ≤ c2) (h : spec_l8Scaled.f k l0 a1 l2 a3 = some (r1, r2)) :
  Calls Try.prog 154 #[.slice A0 l0.length c0, .int .i64 a1, .slice A2 l2.length c2, .int .i64 a3] w fun e w' => ∃ v0_ : Value, e = .returned (.tuple #[v0_, .bool r2]) ∧ Kd.R (Kd.int .i64) 3 w' w.heap.size (fun _ => True) v0_ r1 ∧ Below w.heap.size w w' := by
 have HR0 := Aside0.mk hr0
 have HC0 := Aside0.mk hc0
 clear hr0 hc0
 have HR2 := Aside0.mk hr2
 have HC2 := Aside0.mk hc2
 clear hr2 hc2
 have HB := Aside0.mk (Below.refl w.heap.size w)
 have H : (spec_l8Scaled.l0 k l0 a1 l2 a3 (([] : List Int)) 0) = some (r1, r2) := h
 clear h
 obtain ⟨y465, hy465⟩ : ∃ y_ : List Int, y_ = (([] : List Int)) := ⟨_, rfl⟩
 replace H : (spec_l8Scaled.l0 k l0 a1 l2 a3 y465 0) = some (r1, r2) := by first | (rw [hy465]; with_reducible exact H) | (have H2_ := (Option.bind_some _ _).symm.trans H; rw [hy465]; with_reducible exact H2_) | (have H2_ := (Option.bind_some _ _).symm.trans H; with_reducible exact H2_) | with_reducible exact H | (rw [hy465]; exact H) | exact H
 have Ny465 := Aside0.mk hy465
 clear hy465
 have H' := Aside0.mk H
 clear H
 go_enter Try.func154, Try.ntmps154
 go_wp2_with (first | ((with_reducible refine gate_dst (N := 18) rfl ?_); refine Kd.R_lit (Kd.int .i64) _ 3 ?hg (N := 18) ?hd (xs := ([] : List Int)) (inner := []) (ok := fun _ => True) (okp := fun _ => True) ?hr ?hp (fun _ hk => hk) trivial (Below.refl _ _) (Nat.le_refl _) (by simp) ?_; (case hd => rfl); (case hg => rfl); (case hr => first | (go_simp; done) | (go_simp; rfl)); (case hp => exact (Reps.none _ _)); intro v466 w5 ho6 hb hg_ hnew_; clear hg_ hnew_; (first | rw [← Ny465.out] at ho6 | (simp only [Int.reduceToNat] at ho6; rw [← Ny465.out] at ho6)); have HO467 := Aside0.mk (Kd.R_lower ho6 (below_size (ms HB))); replace HB := bs HB hb; clear hb ho6))
 go_loopg [10, 11] k (fun kq v10 v11 w' => ∃ (x10_1 : List Int) (x11_1 : Int), v11 = .int .i64 x11_1 ∧ Aside0 (spec_l8Scaled.l0 kq l0 a1 l2 a3 x10_1 x11_1 = some (r1, r2)) ∧ Aside0 (kq ≤ k) ∧ Aside0 (Kd.R (Kd.int .i64) 3 w' w.heap.size (fun _ => True) v10 x10_1) ∧ Aside0 (Below w.heap.size w w'))
 case atStart => exact ⟨(y465), (0), (by first | rfl | (simp; done) | (simp [*]; done)), H', ⟨Nat.le_refl _⟩, ⟨by (with_reducible repeat (first | apply Kd.R_alloc | apply Kd.R_drewN | apply Kd.R_drew)); exact HO467.out⟩, ⟨ms HB⟩⟩
 case round =>
  clear H'
  try clear c1
  try clear c2
  try clear p2
  obtain ⟨x10_1, x11_1, rfl, HA, HK1, HO_10, HB⟩ := hrel
  cases gk with
  | zero => exact absurd HA.out (by simp [spec_l8Scaled.l0])
  | succ k1 =>
   have H := HA.out
   clear HA
   simp only [spec_l8Scaled.l0] at H
   by_cases c7 : x11_1 < (l0.length : Int)
   ·rw [if_pos c7] at H
    have c7b0 : decide (x11_1 < (l0.length : Int)) = true := decide_eq_true c7
    clear c7
    by_cases c8 : 0 ≤ x11_1
    ·rw [if_pos c8] at H
     have c8b0 : decide (0 ≤ x11_1) = true := decide_eq_true c8
     clear c8
     replace H := Option.bind_eq_some_iff.mp H
     obtain ⟨⟨t469, t470⟩, A90, H⟩ := H
     replace H : (if x11_1 < (l2.length : Int) then ((spec_MulLimited.f (rd l2 x11_1) a3).bind fun bt472 => ((spec_AddLimited.f t469 bt472.1).bind fun bt474 => (if t470 = true then (if bt472.2 = true then (if bt474.2 = true then (if x10_1.length < 17592186044416 then (spec_l8Scaled.l0 k1 l0 a1 l2 a3 (x10_1 ++ [bt474.1]) (wrap64 (x11_1 + 1))) else (none)) else (some ((([] : List Int)), false))) else (some ((([] : List Int)), false))) else (some ((([] : List Int)), false))))) else (none)) = some (r1, r2) := H
     have A9 := Aside0.mk A90
     clear A90
     by_cases c10 : x11_1 < (l2.length : Int)
     ·rw [if_pos c10] at H
      have c10b0 : decide (x11_1 < (l2.length : Int)) = true := decide_eq_true c10
      clear c10
      replace H := Option.bind_eq_some_iff.mp H
      obtain ⟨⟨t472, t473⟩, A110, H⟩ := H
      replace H : ((spec_AddLimited.f t469 t472).bind fun bt474 => (if t470 = true then (if t473 = true then (if bt474.2 = true then (if x10_1.length < 17592186044416 then (spec_l8Scaled.l0 k1 l0 a1 l2 a3 (x10_1 ++ [bt474.1]) (wrap64 (x11_1 + 1))) else (none)) else (some ((([] : List Int)), false))) else (some ((([] : List Int)), false))) else (some ((([] : List Int)), false)))) = some (r1, r2) := H
      have A11 := Aside0.mk A110
      clear A110
      replace H := Option.bind_eq_some_iff.mp H
      obtain ⟨⟨t474, t475⟩, A120, H⟩ := H
      replace H : (if t470 = true then (if t473 = true then (if t475 = true then (if x10_1.length < 17592186044416 then (spec_l8Scaled.l0 k1 l0 a1 l2 a3 (x10_1 ++ [t474]) (wrap64 (x11_1 + 1))) else (none)) else (some ((([] : List Int)), false))) else (some ((([] : List Int)), false))) else (some ((([] : List Int)), false))) = some (r1, r2) := H
      have A12 := Aside0.mk A120
      clear A120
      by_cases c13 : t470 = true
      ·subst c13
       have H1 : (if t473 = true then (if t475 = true then (if x10_1.length < 17592186044416 then (spec_l8Scaled.l0 k1 l0 a1 l2 a3 (x10_1 ++ [t474]) (wrap64 (x11_1 + 1))) else (none)) else (some ((([] : List Int)), false))) else (some ((([] : List Int)), false))) = some (r1, r2) := by rw [if_pos rfl] at H; exact H
       clear H
       have H := H1
       clear H1
       by_cases c14 : t473 = true
       ·subst c14
        have H1 : (if t475 = true then (if x10_1.length < 17592186044416 then (spec_l8Scaled.l0 k1 l0 a1 l2 a3 (x10_1 ++ [t474]) (wrap64 (x11_1 + 1))) else (none)) else (some ((([] : List Int)), false))) = some (r1, r2) := by rw [if_pos rfl] at H; exact H
        clear H
        have H := H1
        clear H1
        by_cases c15 : t475 = true
        ·subst c15
         have H1 : (if x10_1.length < 17592186044416 then (spec_l8Scaled.l0 k1 l0 a1 l2 a3 (x10_1 ++ [t474]) (wrap64 (x11_1 + 1))) else (none)) = some (r1, r2) := by rw [if_pos rfl] at H; exact H
         clear H
         have H := H1
         clear H1
         by_cases c16 : x10_1.length < 17592186044416
         ·rw [if_pos c16] at H
          have LMc16 := Aside0.mk c16
          clear c16
          obtain ⟨y476, hy476⟩ : ∃ y_ : List Int, y_ = (x10_1 ++ [t474]) := ⟨_, rfl⟩
          replace H : (spec_l8Scaled.l0 k1 l0 a1 l2 a3 y476 (wrap64 (x11_1 + 1))) = some (r1, r2) := by first | (rw [hy476]; with_reducible exact H) | (have H2_ := (Option.bind_some _ _).symm.trans H; rw [hy476]; with_reducible exact H2_) | (have H2_ := (Option.bind_some _ _).symm.trans H; with_reducible exact H2_) | with_reducible exact H | (rw [hy476]; exact H) | exact H
          have Ny476 := Aside0.mk hy476
          clear hy476
          have H' := Aside0.mk H
          clear H
          have p468 : 0 ≤ (x11_1 : Int) := of_decide_eq_true (by first | (with_reducible assumption) | assumption)
          have q468 : x11_1 < (l0.length : Int) := of_decide_eq_true (by first | (with_reducible assumption) | assumption)
          obtain ⟨ad468, e468, hx468_0⟩ := Kd.at_int HR0.out x11_1 p468 q468
          cases e468
          replace hx468_0 := (HB.out.cell (World.block_lt_of_cell? w _ hx468_0)).trans hx468_0
          replace p468 := eq_true p468
          replace q468 := eq_true q468
          go_wp2_with (first | ((with_reducible refine gate_callee (f := 151) rfl ?_); refine gl (some 31) rfl rfl Try.func151 (by kernel_rfl) rfl #[.int .i64 (rd l0 x11_1), .int .i64 a1] rfl ?_; (with_reducible refine (spec_MulLimited.calls (rd l0 x11_1) a1 t469 true _ A9.out).mono ?_); rintro e w' ⟨rfl, ⟨nd, rfl⟩⟩; refine ⟨_, rfl, ?_⟩; have p471 : 0 ≤ (x11_1 : Int) := of_decide_eq_true (by first | (with_reducible assumption) | assumption); have q471 : x11_1 < (l2.length : Int) := of_decide_eq_true (by first | (with_reducible assumption) | assumption); obtain ⟨ad471, e471, hx471_0⟩ := Kd.at_int HR2.out x11_1 p471 q471; cases e471; replace hx471_0 := (HB.out.cell (World.block_lt_of_cell? w _ hx471_0)).trans hx471_0; replace p471 := eq_true p471; replace q471 := eq_true q471) | ((with_reducible refine gate_callee (f := 151) rfl ?_); refine gl (some 40) rfl rfl Try.func151 (by kernel_rfl) rfl #[.int .i64 (rd l2 x11_1), .int .i64 a3] rfl ?_; (with_reducible refine (spec_MulLimited.calls (rd l2 x11_1) a3 t472 true _ A11.out).mono ?_); rintro e w' ⟨rfl, ⟨nd, rfl⟩⟩; refine ⟨_, rfl, ?_⟩) | ((with_reducible refine gate_callee (f := 152) rfl ?_); refine gl (some 46) rfl rfl Try.func152 (by kernel_rfl) rfl #[.int .i64 t469, .int .i64 t472] rfl ?_; (with_reducible refine (spec_AddLimited.calls t469 t472 t474 true _ A12.out).mono ?_); rintro e w' ⟨rfl, ⟨nd, rfl⟩⟩; refine ⟨_, rfl, ?_⟩) | ((with_reducible refine gate_builtin (b := .append) (xs := #[.tmp 60, .tmp 62]) rfl ?_); at_builtin; refine Kd.R_append (Kd.int .i64) (w0 := w) w.heap.size rfl (.tmp 60) (.tmp 62) 27 3 (.int .i64 0) 8 rfl Try.underlying27 info3 rfl (by decide) (by omega) u10 x10_1 t474 [.int .i64 t474] (fun _ => True) (fun _ => False) rfl rfl ?aP (fun _ hk => hk.elim) ?aF ?aO ?aB ?aS ?aL ?_; (case aP => exact rfl); (case aB => exact (ms HB)); (case aF => exact (fun _ _ => trivial)); (case aO => exact (mr HO_10)); (case aS => exact (below_size (ms HB))); (case aL => have := LMc16.out; omega); intro v477 w17 ho hb hg hat; rw [← Ny476.out] at ho; replace HB := Aside0.mk (hb); have HO478 := Aside0.mk (ho); clear HO_10 ho hb hg hat))
          go_roundg k1
          case measure => have := HK1.out; omega
          case rel => exact ⟨(y476), (wrap64 (x11_1 + 1)), (by first | rfl | (simp; done) | (simp [*]; done)), H', ⟨by have := HK1.out; omega⟩, ⟨by (with_reducible repeat (first | apply Kd.R_alloc | apply Kd.R_drewN | apply Kd.R_drew)); exact HO478.out⟩, ⟨ms HB⟩⟩
         rw [if_neg c16] at H
         exact absurd H (by simp)
        replace c15 := Bool.eq_false_iff.mpr c15
        subst c15
        have H1 : (some ((([] : List Int)), false)) = some (r1, r2) := by rw [if_neg (show ¬ (false = true) by decide)] at H; exact H
        clear H
        have H := H1
        clear H1
        obtain ⟨y479, hy479⟩ : ∃ y_ : List Int, y_ = (([] : List Int)) := ⟨_, rfl⟩
        replace H : (some (y479, false)) = some (r1, r2) := by first | (rw [hy479]; with_reducible exact H) | (have H2_ := (Option.bind_some _ _).symm.trans H; rw [hy479]; with_reducible exact H2_) | (have H2_ := (Option.bind_some _ _).symm.trans H; with_reducible exact H2_) | with_reducible exact H | (rw [hy479]; exact H) | exact H
        have Ny479 := Aside0.mk hy479
        clear hy479
        simp only [Option.some.injEq, Prod.mk.injEq] at H
        obtain ⟨rfl, rfl⟩ := H
        have p468 : 0 ≤ (x11_1 : Int) := of_decide_eq_true (by first | (with_reducible assumption) | assumption)
        have q468 : x11_1 < (l0.length : Int) := of_decide_eq_true (by first | (with_reducible assumption) | assumption)
        obtain ⟨ad468, e468, hx468_0⟩ := Kd.at_int HR0.out x11_1 p468 q468
        cases e468
        replace hx468_0 := (HB.out.cell (World.block_lt_of_cell? w _ hx468_0)).trans hx468_0
        replace p468 := eq_true p468
        replace q468 := eq_true q468
        go_wp2_with (first | ((with_reducible refine gate_callee (f := 151) rfl ?_); refine gl (some 31) rfl rfl Try.func151 (by kernel_rfl) rfl #[.int .i64 (rd l0 x11_1), .int .i64 a1] rfl ?_; (with_reducible refine (spec_MulLimited.calls (rd l0 x11_1) a1 t469 true _ A9.out).mono ?_); rintro e w' ⟨rfl, ⟨nd, rfl⟩⟩; refine ⟨_, rfl, ?_⟩; have p471 : 0 ≤ (x11_1 : Int) := of_decide_eq_true (by first | (with_reducible assumption) | assumption); have q471 : x11_1 < (l2.length : Int) := of_decide_eq_true (by first | (with_reducible assumption) | assumption); obtain ⟨ad471, e471, hx471_0⟩ := Kd.at_int HR2.out x11_1 p471 q471; cases e471; replace hx471_0 := (HB.out.cell (World.block_lt_of_cell? w _ hx471_0)).trans hx471_0; replace p471 := eq_true p471; replace q471 := eq_true q471) | ((with_reducible refine gate_callee (f := 151) rfl ?_); refine gl (some 40) rfl rfl Try.func151 (by kernel_rfl) rfl #[.int .i64 (rd l2 x11_1), .int .i64 a3] rfl ?_; (with_reducible refine (spec_MulLimited.calls (rd l2 x11_1) a3 t472 true _ A11.out).mono ?_); rintro e w' ⟨rfl, ⟨nd, rfl⟩⟩; refine ⟨_, rfl, ?_⟩) | ((with_reducible refine gate_callee (f := 152) rfl ?_); refine gl (some 46) rfl rfl Try.func152 (by kernel_rfl) rfl #[.int .i64 t469, .int .i64 t472] rfl ?_; (with_reducible refine (spec_AddLimited.calls t469 t472 t474 false _ A12.out).mono ?_); rintro e w' ⟨rfl, ⟨nd, rfl⟩⟩; refine ⟨_, rfl, ?_⟩) | ((with_reducible refine gate_dst (N := 59) rfl ?_); refine Kd.R_lit (Kd.int .i64) _ 3 ?hg (N := 59) ?hd (xs := ([] : List Int)) (inner := []) (ok := fun _ => True) (okp := fun _ => True) ?hr ?hp (fun _ hk => hk) trivial (Below.refl _ _) (Nat.le_refl _) (by simp) ?_; (case hd => rfl); (case hg => rfl); (case hr => first | (go_simp; done) | (go_simp; rfl)); (case hp => exact (Reps.none _ _)); intro v480 w18 ho19 hb hg_ hnew_; clear hg_ hnew_; (first | rw [← Ny479.out] at ho19 | (simp only [Int.reduceToNat] at ho19; rw [← Ny479.out] at ho19)); have HO481 := Aside0.mk (Kd.R_lower (Kd.R_new' ho19 (Kd.R_lt (mr HO_10))) (below_size (ms HB))); replace HO_10 := rl HO_10 ho19 hb; replace HB := bs HB hb; clear hb ho19))
        go_ret2
        exact ⟨_, by first | rfl | (simp [errW_none, errW_some] <;> rfl) | (simp [*, errW_none, errW_some] <;> rfl), by (with_reducible repeat (first | apply Kd.R_alloc | apply Kd.R_drewN | apply Kd.R_drew)); exact Kd.R_mono HO481.out (fun _ hk => trivial), ms HB⟩
       replace c14 := Bool.eq_false_iff.mpr c14
       subst c14
       have H1 : (some ((([] : List Int)), false)) = some (r1, r2) := by rw [if_neg (show ¬ (false = true) by decide)] at H; exact H
       clear H
       have H := H1
       clear H1
       obtain ⟨y482, hy482⟩ : ∃ y_ : List Int, y_ = (([] : List Int)) := ⟨_, rfl⟩
       replace H : (some (y482, false)) = some (r1, r2) := by first | (rw [hy482]; with_reducible exact H) | (have H2_ := (Option.bind_some _ _).symm.trans H; rw [hy482]; with_reducible exact H2_) | (have H2_ := (Option.bind_some _ _).symm.trans H; with_reducible exact H2_) | with_reducible exact H | (rw [hy482]; exact H) | exact H
       have Ny482 := Aside0.mk hy482
       clear hy482
       simp only [Option.some.injEq, Prod.mk.injEq] at H
       obtain ⟨rfl, rfl⟩ := H
       have p468 : 0 ≤ (x11_1 : Int) := of_decide_eq_true (by first | (with_reducible assumption) | assumption)
       have q468 : x11_1 < (l0.length : Int) := of_decide_eq_true (by first | (with_reducible assumption) | assumption)
       obtain ⟨ad468, e468, hx468_0⟩ := Kd.at_int HR0.out x11_1 p468 q468
       cases e468
       replace hx468_0 := (HB.out.cell (World.block_lt_of_cell? w _ hx468_0)).trans hx468_0
       replace p468 := eq_true p468
       replace q468 := eq_true q468
       go_wp2_with (first | ((with_reducible refine gate_callee (f := 151) rfl ?_); refine gl (some 31) rfl rfl Try.func151 (by kernel_rfl) rfl #[.int .i64 (rd l0 x11_1), .int .i64 a1] rfl ?_; (with_reducible refine (spec_MulLimited.calls (rd l0 x11_1) a1 t469 true _ A9.out).mono ?_); rintro e w' ⟨rfl, ⟨nd, rfl⟩⟩; refine ⟨_, rfl, ?_⟩; have p471 : 0 ≤ (x11_1 : Int) := of_decide_eq_true (by first | (with_reducible assumption) | assumption); have q471 : x11_1 < (l2.length : Int) := of_decide_eq_true (by first | (with_reducible assumption) | assumption); obtain ⟨ad471, e471, hx471_0⟩ := Kd.at_int HR2.out x11_1 p471 q471; cases e471; replace hx471_0 := (HB.out.cell (World.block_lt_of_cell? w _ hx471_0)).trans hx471_0; replace p471 := eq_true p471; replace q471 := eq_true q471) | ((with_reducible refine gate_callee (f := 151) rfl ?_); refine gl (some 40) rfl rfl Try.func151 (by kernel_rfl) rfl #[.int .i64 (rd l2 x11_1), .int .i64 a3] rfl ?_; (with_reducible refine (spec_MulLimited.calls (rd l2 x11_1) a3 t472 false _ A11.out).mono ?_); rintro e w' ⟨rfl, ⟨nd, rfl⟩⟩; refine ⟨_, rfl, ?_⟩) | ((with_reducible refine gate_callee (f := 152) rfl ?_); refine gl (some 46) rfl rfl Try.func152 (by kernel_rfl) rfl #[.int .i64 t469, .int .i64 t472] rfl ?_; (with_reducible refine (spec_AddLimited.calls t469 t472 t474 t475 _ A12.out).mono ?_); rintro e w' ⟨rfl, ⟨nd, rfl⟩⟩; refine ⟨_, rfl, ?_⟩) | ((with_reducible refine gate_dst (N := 59) rfl ?_); refine Kd.R_lit (Kd.int .i64) _ 3 ?hg (N := 59) ?hd (xs := ([] : List Int)) (inner := []) (ok := fun _ => True) (okp := fun _ => True) ?hr ?hp (fun _ hk => hk) trivial (Below.refl _ _) (Nat.le_refl _) (by simp) ?_; (case hd => rfl); (case hg => rfl); (case hr => first | (go_simp; done) | (go_simp; rfl)); (case hp => exact (Reps.none _ _)); intro v483 w20 ho21 hb hg_ hnew_; clear hg_ hnew_; (first | rw [← Ny482.out] at ho21 | (simp only [Int.reduceToNat] at ho21; rw [← Ny482.out] at ho21)); have HO484 := Aside0.mk (Kd.R_lower (Kd.R_new' ho21 (Kd.R_lt (mr HO_10))) (below_size (ms HB))); replace HO_10 := rl HO_10 ho21 hb; replace HB := bs HB hb; clear hb ho21))
       go_ret2
       exact ⟨_, by first | rfl | (simp [errW_none, errW_some] <;> rfl) | (simp [*, errW_none, errW_some] <;> rfl), by (with_reducible repeat (first | apply Kd.R_alloc | apply Kd.R_drewN | apply Kd.R_drew)); exact Kd.R_mono HO484.out (fun _ hk => trivial), ms HB⟩
      replace c13 := Bool.eq_false_iff.mpr c13
      subst c13
      have H1 : (some ((([] : List Int)), false)) = some (r1, r2) := by rw [if_neg (show ¬ (false = true) by decide)] at H; exact H
      clear H
      have H := H1
      clear H1
      obtain ⟨y485, hy485⟩ : ∃ y_ : List Int, y_ = (([] : List Int)) := ⟨_, rfl⟩
      replace H : (some (y485, false)) = some (r1, r2) := by first | (rw [hy485]; with_reducible exact H) | (have H2_ := (Option.bind_some _ _).symm.trans H; rw [hy485]; with_reducible exact H2_) | (have H2_ := (Option.bind_some _ _).symm.trans H; with_reducible exact H2_) | with_reducible exact H | (rw [hy485]; exact H) | exact H
      have Ny485 := Aside0.mk hy485
      clear hy485
      simp only [Option.some.injEq, Prod.mk.injEq] at H
      obtain ⟨rfl, rfl⟩ := H
      have p468 : 0 ≤ (x11_1 : Int) := of_decide_eq_true (by first | (with_reducible assumption) | assumption)
      have q468 : x11_1 < (l0.length : Int) := of_decide_eq_true (by first | (with_reducible assumption) | assumption)
      obtain ⟨ad468, e468, hx468_0⟩ := Kd.at_int HR0.out x11_1 p468 q468
      cases e468
      replace hx468_0 := (HB.out.cell (World.block_lt_of_cell? w _ hx468_0)).trans hx468_0
      replace p468 := eq_true p468
      replace q468 := eq_true q468
      go_wp2_with (first | ((with_reducible refine gate_callee (f := 151) rfl ?_); refine gl (some 31) rfl rfl Try.func151 (by kernel_rfl) rfl #[.int .i64 (rd l0 x11_1), .int .i64 a1] rfl ?_; (with_reducible refine (spec_MulLimited.calls (rd l0 x11_1) a1 t469 false _ A9.out).mono ?_); rintro e w' ⟨rfl, ⟨nd, rfl⟩⟩; refine ⟨_, rfl, ?_⟩; have p471 : 0 ≤ (x11_1 : Int) := of_decide_eq_true (by first | (with_reducible assumption) | assumption); have q471 : x11_1 < (l2.length : Int) := of_decide_eq_true (by first | (with_reducible assumption) | assumption); obtain ⟨ad471, e471, hx471_0⟩ := Kd.at_int HR2.out x11_1 p471 q471; cases e471; replace hx471_0 := (HB.out.cell (World.block_lt_of_cell? w _ hx471_0)).trans hx471_0; replace p471 := eq_true p471; replace q471 := eq_true q471) | ((with_reducible refine gate_callee (f := 151) rfl ?_); refine gl (some 40) rfl rfl Try.func151 (by kernel_rfl) rfl #[.int .i64 (rd l2 x11_1), .int .i64 a3] rfl ?_; (with_reducible refine (spec_MulLimited.calls (rd l2 x11_1) a3 t472 t473 _ A11.out).mono ?_); rintro e w' ⟨rfl, ⟨nd, rfl⟩⟩; refine ⟨_, rfl, ?_⟩) | ((with_reducible refine gate_callee (f := 152) rfl ?_); refine gl (some 46) rfl rfl Try.func152 (by kernel_rfl) rfl #[.int .i64 t469, .int .i64 t472] rfl ?_; (with_reducible refine (spec_AddLimited.calls t469 t472 t474 t475 _ A12.out).mono ?_); rintro e w' ⟨rfl, ⟨nd, rfl⟩⟩; refine ⟨_, rfl, ?_⟩) | ((with_reducible refine gate_dst (N := 59) rfl ?_); refine Kd.R_lit (Kd.int .i64) _ 3 ?hg (N := 59) ?hd (xs := ([] : List Int)) (inner := []) (ok := fun _ => True) (okp := fun _ => True) ?hr ?hp (fun _ hk => hk) trivial (Below.refl _ _) (Nat.le_refl _) (by simp) ?_; (case hd => rfl); (case hg => rfl); (case hr => first | (go_simp; done) | (go_simp; rfl)); (case hp => exact (Reps.none _ _)); intro v486 w22 ho23 hb hg_ hnew_; clear hg_ hnew_; (first | rw [← Ny485.out] at ho23 | (simp only [Int.reduceToNat] at ho23; rw [← Ny485.out] at ho23)); have HO487 := Aside0.mk (Kd.R_lower (Kd.R_new' ho23 (Kd.R_lt (mr HO_10))) (below_size (ms HB))); replace HO_10 := rl HO_10 ho23 hb; replace HB := bs HB hb; clear hb ho23))
      go_ret2
      exact ⟨_, by first | rfl | (simp [errW_none, errW_some] <;> rfl) | (simp [*, errW_none, errW_some] <;> rfl), by (with_reducible repeat (first | apply Kd.R_alloc | apply Kd.R_drewN | apply Kd.R_drew)); exact Kd.R_mono HO487.out (fun _ hk => trivial), ms HB⟩
     rw [if_neg c10] at H
     exact absurd H (by simp)
    rw [if_neg c8] at H
    exact absurd H (by simp)
   rw [if_neg c7] at H
   have c7b0 : decide (x11_1 < (l0.length : Int)) = false := decide_eq_false c7
   clear c7
   simp only [Option.some.injEq, Prod.mk.injEq] at H
   obtain ⟨rfl, rfl⟩ := H
   go_wp2
   go_ret2
   exact ⟨_, by first | rfl | (simp [errW_none, errW_some] <;> rfl) | (simp [*, errW_none, errW_some] <;> rfl), by (with_reducible repeat (first | apply Kd.R_alloc | apply Kd.R_drewN | apply Kd.R_drew)); exact HO_10.out, ms HB⟩

def spec_l8Join.f (k : Nat) (a0_0 : Int) (l0_1 : List Int) (l0_2 : List Int) (a1_0 : Int) (l1_1 : List Int) (l1_2 : List Int) (a2 : Int) : Option (Int × List Int × List Int × Bool) := if 0 ≤ a2 then (if a2 < (l0_1.length : Int) then (if a2 < (l1_1.length : Int) then ((spec_Gcd.f k (rd l0_1 a2) (wrap64 (-(rd l1_1 a2)))).bind fun t344 => ((spec_l1Max.f t344 1).bind fun t345 => (if 0 ≤ (l0_1.length : Int) then (if ((l0_1.length : Int) : Int).toNat ≤ 35184372088832 then (if t345 = 0 then (none) else ((spec_AddScaled.f k 0 (List.replicate ((l0_1.length : Int) : Int).toNat 0) (wrap64 (Int.tdiv (wrap64 (-(rd l1_1 a2))) t345)) a0_0 l0_1).bind fun bt349 => ((spec_AddScaled.f k bt349.1 bt349.2.1 (wrap64 (Int.tdiv (rd l0_1 a2) t345)) a1_0 l1_1).bind fun bt355 => ((spec_l8Scaled.f k l0_2 (wrap64 (Int.tdiv (wrap64 (-(rd l1_1 a2))) t345)) l1_2 (wrap64 (Int.tdiv (rd l0_1 a2) t345))).bind fun bt361 => (if bt349.2.2 = true then (if bt355.2.2 = true then (some (bt355.1, bt355.2.1, bt361.1, bt361.2)) else (some (bt355.1, bt355.2.1, bt361.1, false))) else (some (bt355.1, bt355.2.1, bt361.1, false))))))) else (none)) else (none)))) else (none)) else (none)) else (none)
theorem spec_l8Join.mono : ∀ a0 a1 a2 a3 a4 a5 a6 k, LeO (spec_l8Join.f k a0 a1 a2 a3 a4 a5 a6) (spec_l8Join.f (k + 1) a0 a1 a2 a3 a4 a5 a6) := by
 intro a0 a1 a2 a3 a4 a5 a6 k
 unfold spec_l8Join.f
 repeat' with_reducible first
 | exact spec_AddScaled.mono _ _ _ _ _ _
 | exact spec_Gcd.mono _ _ _
 | exact spec_l8Scaled.mono _ _ _ _ _
 | exact LeO.refl _
 | exact LeO.none _
 | refine LeO.ite ?_ ?_
 | refine LeO.bind ?_ (fun _ => ?_)
set_option maxHeartbeats 8000000 in
set_option maxRecDepth 100000 in
theorem spec_l8Join.calls (k : Nat) (a0_0 : Int) (A0_1 : Option Addr) (c0_1 : Nat) (l0_1 : List Int) (A0_2 : Option Addr) (c0_2 : Nat) (l0_2 : List Int) (a1_0 : Int) (A1_1 : Option Addr) (c1_1 : Nat) (l1_1 : List Int) (A1_2 : Option Addr) (c1_2 : Nat) (l1_2 : List Int) (a2 : Int) (r1 : Int) (r2 : List Int) (r3 : List Int) (r4 : Bool) (w : World) (hr0_1 : Kd.C (Kd.int .i64) w A0_1 l0_1.length l0_1) (hc0_1 : l0_1.length ≤ c0_1) (hr0_2 : Kd.C (Kd.int .i64) w A0_2 l0_2.length l0_2) (hc0_2 : l0_2.length ≤ c0_2) (hr1_1 : Kd.C (Kd.int .i64) w A1_1 l1_1.length l1_1) (hc1_1 : l1_1.length ≤ c1_1) (hr1_2 : Kd.C (Kd.int .i64) w A1_2 l1_2.length l1_2) (hc1_2 : l1_2.length ≤ c1_2) (h : spec_l8Join.f k a0_0 l0_1 l0_2 a1_0 l1_1 l1_2 a2 = some (r1, r2, r3, r4)) :
  Calls Try.prog 131 #[.agg #[.int .i64 a0_0, .slice A0_1 l0_1.length c0_1, .slice A0_2 l0_2.length c0_2], .agg #[.int .i64 a1_0, .slice A1_1 l1_1.length c1_1, .slice A1_2 l1_2.length c1_2], .int .i64 a2] w fun e w' => ∃ v1_ v2_ : Value, e = .returned (.tuple #[.agg #[.int .i64 r1, v1_, v2_], .bool r4]) ∧ Kd.R (Kd.int .i64) 3 w' w.heap.size (fun k_ => some k_ ≠ (v2_ : Value).ownBlock) v1_ r2 ∧ Kd.R (Kd.int .i64) 3 w' w.heap.size (fun k_ => some k_ ≠ (v1_ : Value).ownBlock) v2_ r3 ∧ Below w.heap.size w w' := by
 have hu93 := Try.underlying93
 have hu29 := Try.underlying29
 unfold spec_l8Join.f at h
 by_cases c4 : 0 ≤ a2
 rotate_left
 ·rw [if_neg c4] at h; cases h
 rw [if_pos c4] at h
 by_cases c5 : a2 < (l0_1.length : Int)
 rotate_left
 ·rw [if_neg c5] at h; cases h
 rw [if_pos c5] at h
 by_cases c6 : a2 < (l1_1.length : Int)
 rotate_left
 ·rw [if_neg c6] at h; cases h
 rw [if_pos c6] at h
 obtain ⟨g0, A0, h⟩ := Option.bind_eq_some_iff.mp h
 obtain ⟨g, A1, h⟩ := Option.bind_eq_some_iff.mp h
 rw [if_pos (Int.natCast_nonneg _)] at h
 by_cases c10 : ((l0_1.length : Int) : Int).toNat ≤ 35184372088832
 rotate_left
 ·rw [if_neg c10] at h; cases h
 rw [if_pos c10] at h
 by_cases c8 : g = 0
 ·rw [if_pos c8] at h; cases h
 rw [if_neg c8] at h
 obtain ⟨⟨t0, t0', t0b⟩, A2, h⟩ := Option.bind_eq_some_iff.mp h
 obtain ⟨⟨t1, t1', t1b⟩, A3, h⟩ := Option.bind_eq_some_iff.mp h
 obtain ⟨⟨m, mok⟩, A4, h⟩ := Option.bind_eq_some_iff.mp h
 obtain ⟨rfl, rfl, rfl, rfl⟩ : r1 = t1 ∧ r2 = t1' ∧ r3 = m ∧ r4 = (t0b && (t1b && mok)) := by
  cases t0b <;> cases t1b <;> simp at h <;> obtain ⟨rfl, rfl, rfl, rfl⟩ := h <;> exact ⟨rfl, rfl, rfl, rfl⟩
 clear h
 obtain ⟨y0, ny⟩ : ∃ y : List Int, y = List.replicate l0_1.length 0 := ⟨_, rfl⟩
 have NY := Aside0.mk ny
 have H0 : Aside0 (spec_Gcd.f k (rd l0_1 a2) (wrap64 (-(rd l1_1 a2))) = some g0) := ⟨A0⟩
 have H1 : Aside0 (spec_l1Max.f g0 1 = some g) := ⟨A1⟩
 have H2 : Aside0 (spec_AddScaled.f k 0 y0 (wrap64 (Int.tdiv (wrap64 (-(rd l1_1 a2))) g)) a0_0 l0_1 = some (t0, t0', t0b)) := ⟨by rw [ny]; exact A2⟩
 have H3 : Aside0 (spec_AddScaled.f k t0 t0' (wrap64 (Int.tdiv (rd l0_1 a2) g)) a1_0 l1_1 = some (r1, r2, t1b)) := ⟨A3⟩
 have H4 : Aside0 (spec_l8Scaled.f k l0_2 (wrap64 (Int.tdiv (wrap64 (-(rd l1_1 a2))) g)) l1_2 (wrap64 (Int.tdiv (rd l0_1 a2) g)) = some (r3, mok)) := ⟨A4⟩
 have C10 : Aside0 (l0_1.length ≤ 35184372088832) := ⟨by simpa using c10⟩
 have hyl : y0.length = l0_1.length := by rw [ny, List.length_replicate]
 have hmk : ∀ w : World, (Instr.makeSlice 27 (.int .i64 (l0_1.length : Int)) (.int .i64 (l0_1.length : Int))).run Try.prog w = .ok (.slice (some ⟨w.heap.size, 0, none⟩) y0.length y0.length) (w.alloc (.cells (made0 l0_1.length) 3)) := fun w => by rw [hyl]; exact run_made Try.underlying27 info3 _ C10.out w
 clear hyl
 clear A0 A1 A2 A3 A4 ny c10
 obtain ⟨ad1, e1, hx1⟩ := Kd.at_int hr0_1 a2 c4 c5
 cases e1
 obtain ⟨ad2, e2, hx2⟩ := Kd.at_int hr1_1 a2 c4 c6
 cases e2
 have HR0_1 := Aside0.mk hr0_1
 have HC0_1 := Aside0.mk hc0_1
 have HR0_2 := Aside0.mk hr0_2
 have HC0_2 := Aside0.mk hc0_2
 have HR1_1 := Aside0.mk hr1_1
 have HC1_1 := Aside0.mk hc1_1
 have HR1_2 := Aside0.mk hr1_2
 have HC1_2 := Aside0.mk hc1_2
 clear hr0_1 hc0_1 hr0_2 hc0_2 hr1_1 hc1_1 hr1_2 hc1_2
 have HB := Aside0.mk (Below.refl w.heap.size w)
 go_enter Try.func131, Try.ntmps131
 go_upto_region 1 with (first | ((with_reducible refine gate_dst (N := 3) rfl ?_); refine box_event ?hg (N := 3) ?hd (cs := #[.int .i64 a0_0, .slice (some ad1) l0_1.length c0_1, .slice A0_2 l0_2.length c0_2]) (t := 93) ?hr ?_; (case hd => rfl); (case hg => rfl); (case hr => first | (go_simp; done) | (go_simp; rfl)); intro q3 hg_ wa hx_ hb_; have Gq3 := gw hg_ HB; replace HB := bs HB hb_; have X3 := Aside0.mk hx_; clear hg_ hx_ hb_) | ((with_reducible refine gate_dst (N := 4) rfl ?_); refine box_event ?hg (N := 4) ?hd (cs := #[.int .i64 a1_0, .slice (some ad2) l1_1.length c1_1, .slice A1_2 l1_2.length c1_2]) (t := 93) ?hr ?_; (case hd => rfl); (case hg => rfl); (case hr => first | (go_simp; done) | (go_simp; rfl)); intro q4 hg_ wb hx_ hb_; have Gq4 := gw hg_ HB; replace X3 := bb X3 hb_; replace HB := bs HB hb_; have X4 := Aside0.mk hx_; clear hg_ hx_ hb_) | ((with_reducible refine gate_dst (N := 6) rfl ?_); refine box_event ?hg (N := 6) ?hd (cs := #[.int .i64 0, .slice none 0 0, .slice none 0 0]) (t := 93) ?hr ?_; (case hd => rfl); (case hg => rfl); (case hr => first | (go_simp; done) | (go_simp; rfl)); intro q6 hg_ wo hx_ hb_; have Gq6 := gw hg_ HB; replace X3 := bb X3 hb_; replace X4 := bb X4 hb_; replace HB := bs HB hb_; have X6 := Aside0.mk hx_; clear hg_ hx_ hb_))
 replace hx1 := (HB.out.cell (World.block_lt_of_cell? _ _ hx1)).trans hx1
 replace hx2 := (HB.out.cell (World.block_lt_of_cell? _ _ hx2)).trans hx2
 obtain ⟨h30, h31, h32⟩ := cl3 X3
 obtain ⟨h40, h41, h42⟩ := cl3 X4
 replace c4 := eq_true c4
 replace c5 := eq_true c5
 replace c6 := eq_true c6
 go_upto_region 4 with (first | (go_at_call 153; refine (spec_Gcd.calls _ _ _ _ _ H0.out).mono ?_; rintro e w1 ⟨rfl, hd⟩; have hb := hd.below; replace HB := bs HB hb; replace X3 := bb X3 hb; replace X4 := bb X4 hb; replace X6 := bb X6 hb; clear hd hb) | (go_at_call 103; refine (spec_l1Max.calls _ _ _ _ H1.out).mono ?_; rintro e w3 ⟨rfl, hd⟩; have hb := hd.below; replace HB := bs HB hb; replace X3 := bb X3 hb; replace X4 := bb X4 hb; replace X6 := bb X6 hb; clear hd hb))
 have E1 : IntKind.i64.wrap (Int.tdiv (wrap64 (-(rd l1_1 a2))) g) = (wrap64 (Int.tdiv (wrap64 (-(rd l1_1 a2))) g)) := i64_w _
 have E2 : IntKind.i64.wrap (Int.tdiv (rd l0_1 a2) g) = (wrap64 (Int.tdiv (rd l0_1 a2) g)) := i64_w _
 have HB0 := HB
 clear HB h30 h31 h32 h40 h41 h42 hx1 hx2 H0 H1 c4 c5 c6
 replace HR0_1 := Aside0.mk (Kd.C_below HR0_1.out HB0.out)
 replace HR0_2 := Aside0.mk (Kd.C_below HR0_2.out HB0.out)
 replace HR1_1 := Aside0.mk (Kd.C_below HR1_1.out HB0.out)
 replace HR1_2 := Aside0.mk (Kd.C_below HR1_2.out HB0.out)
 go_cut [11, 12] (fun v11 v12 wc => ∃ (g11 : Nat) (A1 : Option Addr) (c1 : Nat), v11 = .pointer (some ⟨g11, 0, none⟩) ∧ v12 = .bool t0b ∧ Aside0 (wc.heap[g11]? = some (.cells #[.int .i64 t0, .slice A1 t0'.length c1] 29 (0, 0))) ∧ Aside0 (Kd.R (Kd.int .i64) 3 wc w3.heap.size (fun _ => True) (.slice A1 t0'.length c1) t0') ∧ Aside0 (Below w3.heap.size w3 wc))
 case first =>
  have HB := Aside0.mk (Below.refl w3.heap.size w3)
  have SZ0 := Aside0.mk (Nat.le_refl w3.heap.size)
  have SZ1 := Aside0.mk (Nat.le_succ w3.heap.size)
  have La : Aside0 (∀ g, w3.heap.size ≤ g → q3 ≠ g) := ⟨fun g h => by have := blk_lt X3.out; omega⟩
  go_region_held3 (fun w' => w'.cell? ⟨q3, 0, none⟩ = some (.int .i64 a0_0) ∧ w'.cell? ⟨q3, 1, none⟩ = some (.slice (some ad1) l0_1.length c0_1))
   (first | exact ⟨(blk_cell (mb X3) 0).trans rfl, (blk_cell (mb X3) 1).trans rfl⟩ | exact ⟨(blk_cell (far2 (mb X3) (La.out _ (by first | exact Nat.le_refl _ | exact Nat.le_succ _))) 0).trans rfl, (blk_cell (far2 (mb X3) (La.out _ (by first | exact Nat.le_refl _ | exact Nat.le_succ _))) 1).trans rfl⟩)
   ((go_at_call 81; refine (spec_AddScaled.calls k 0 _ _ y0 (wrap64 (Int.tdiv (wrap64 (-(rd l1_1 a2))) g)) a0_0 (some ad1) c0_1 l0_1 t0 t0' t0b _ (by first | exact made_C0 NY C10 | exact made_C1 NY C10 | exact made_C2 NY C10) (Nat.le_refl _) (Kd.C_below HR0_1.out (ms HB)) HC0_1.out H2.out).mono ?_; rintro e w2 ⟨v1, rfl, ho, hb⟩; obtain ⟨Ay, cy, rfl⟩ := Kd.R_slice ho; have RY := Aside0.mk (Kd.R_lower (Kd.R_mono ho (fun _ _ => trivial)) (below_size (ms HB))); replace X3 := bb X3 hb; (first | have X11 := Aside0.mk (blk_below (new2 w3 (.cells (made0 l0_1.length) 3) (.cells #[.int .i64 0, .slice none 0 0] 29 (0, 0))) hb) | have X11 := Aside0.mk (blk_below (new1 w3 (.cells #[.int .i64 0, .slice none 0 0] 29 (0, 0)) (.cells (made0 l0_1.length) 3)) hb) | skip); replace HB := bs HB hb; (try (have hz0 := (blk_cell X11.out 0).trans (rfl : _ = some (Value.int .i64 0)); have hz1 := (blk_cell X11.out 1).trans (rfl : _ = some (Value.slice none 0 0)); have hf0 := blk_frozen X11.out 0; have hf1 := blk_frozen X11.out 1; (try simp only [World.drew] at hz0 hz1 hf0 hf1))); clear ho hb))
  all_goals go_wp2
  all_goals go_meet
  case rel => exact ⟨_, _, _, rfl, rfl, ⟨heap_alloc_new _ _⟩, ⟨Kd.R_alloc RY.out _⟩, ⟨below_alloc HB.out _⟩⟩
  case rel => exact ⟨_, _, _, rfl, rfl, ⟨put2 X11.out⟩, ⟨own2 RY.out X11.out (by decide)⟩, ⟨below_set (below_set HB.out SZ1.out) SZ1.out⟩⟩
  case rel => exact ⟨_, _, _, rfl, rfl, ⟨put2 X11.out⟩, ⟨own2 RY.out X11.out (by decide)⟩, ⟨below_set (below_set HB.out SZ0.out) SZ0.out⟩⟩
 case rest =>
  obtain ⟨g11, Ay, cy, rfl, rfl, X11, RY, HB⟩ := hcut
  have HB1 := Aside0.mk (HB0.out.trans (HB.out.mono HB0.out.size))
  have L4 : Aside0 (q4 < w3.heap.size) := ⟨blk_lt X4.out⟩
  replace X4 := Aside0.mk (blk_below X4.out HB.out)
  replace X3 := Aside0.mk (blk_below X3.out HB.out)
  replace X6 := Aside0.mk (blk_below X6.out HB.out)
  replace HR0_2 := Aside0.mk (Kd.C_below HR0_2.out HB.out)
  replace HR1_1 := Aside0.mk (Kd.C_below HR1_1.out HB.out)
  replace HR1_2 := Aside0.mk (Kd.C_below HR1_2.out HB.out)
  have B0 : Aside0 (w.heap.size ≤ wc.heap.size) := ⟨HB1.out.size⟩
  clear HB0 HB H2 hmk NY
  go_upto_region 5 with (fail)
  go_cut [13, 14] (fun v13 v14 wd => ∃ (g13 : Nat) (A1 : Option Addr) (c1 : Nat), v13 = .pointer (some ⟨g13, 0, none⟩) ∧ v14 = .bool t1b ∧ Aside0 (wd.heap[g13]? = some (.cells #[.int .i64 r1, .slice A1 r2.length c1] 29 (0, 0))) ∧ Aside0 (Kd.R (Kd.int .i64) 3 wd wc.heap.size (fun _ => True) (.slice A1 r2.length c1) r2) ∧ Aside0 (Below wc.heap.size wc wd))
  case first =>
   have HZ := Aside0.mk (Below.refl wc.heap.size wc)
   have SZ0 := Aside0.mk (Nat.le_refl wc.heap.size)
   have La : Aside0 (∀ g, wc.heap.size ≤ g → g11 ≠ g) := ⟨fun g h => by have := blk_lt X11.out; omega⟩
   have Lb : Aside0 (∀ g, wc.heap.size ≤ g → q4 ≠ g) := ⟨fun g h => by have := blk_lt X4.out; omega⟩
   go_region_held3 (fun w' => w'.cell? ⟨g11, 0, none⟩ = some (.int .i64 t0) ∧ w'.cell? ⟨g11, 1, none⟩ = some (.slice Ay t0'.length cy) ∧ w'.cell? ⟨q4, 0, none⟩ = some (.int .i64 a1_0) ∧ w'.cell? ⟨q4, 1, none⟩ = some (.slice (some ad2) l1_1.length c1_1))
    (first | exact ⟨(blk_cell (mb X11) 0).trans rfl, (blk_cell (mb X11) 1).trans rfl, (blk_cell (mb X4) 0).trans rfl, (blk_cell (mb X4) 1).trans rfl⟩ | exact ⟨(blk_cell (far2 (mb X11) (La.out _ (Nat.le_refl _))) 0).trans rfl, (blk_cell (far2 (mb X11) (La.out _ (Nat.le_refl _))) 1).trans rfl, (blk_cell (far2 (mb X4) (Lb.out _ (Nat.le_refl _))) 0).trans rfl, (blk_cell (far2 (mb X4) (Lb.out _ (Nat.le_refl _))) 1).trans rfl⟩)
    ((go_at_call 81; refine (spec_AddScaled.calls k t0 Ay cy t0' (wrap64 (Int.tdiv (rd l0_1 a2) g)) a1_0 (some ad2) c1_1 l1_1 r1 r2 t1b _ (mc (Kd.R_reads' RY.out).2.2) (Kd.R_reads' RY.out).2.1 (Kd.C_below HR1_1.out (ms HZ)) HC1_1.out H3.out).mono ?_; rintro e w2 ⟨v1, rfl, ho, hb⟩; obtain ⟨Aw, cw, rfl⟩ := Kd.R_slice ho; have RW := Aside0.mk (Kd.R_lower (Kd.R_mono ho (fun _ _ => trivial)) (below_size (ms HZ))); replace X4 := bb X4 hb; replace X11 := bb X11 hb; replace HZ := bs HZ hb; have SZ := Aside0.mk HZ.out.size; (first | have X13 := Aside0.mk (blk_below (heap_alloc_new _ _) hb) | have X13 := Aside0.mk (blk_below (blk_drew (heap_alloc_new _ _)) hb) | skip); (try (have hz0 := (blk_cell X13.out 0).trans (rfl : _ = some (Value.int .i64 0)); have hz1 := (blk_cell X13.out 1).trans (rfl : _ = some (Value.slice none 0 0)); have hf0 := blk_frozen X13.out 0; have hf1 := blk_frozen X13.out 1; (try simp only [World.drew] at hz0 hz1 hf0 hf1))); clear ho hb))
   all_goals go_wp2
   all_goals go_meet
   case rel => exact ⟨_, _, _, rfl, rfl, ⟨heap_alloc_new _ _⟩, ⟨Kd.R_alloc RW.out _⟩, ⟨below_alloc HZ.out _⟩⟩
   case rel => exact ⟨_, _, _, rfl, rfl, ⟨put2 X13.out⟩, ⟨own2 RW.out X13.out (by decide)⟩, ⟨below_set (below_set HZ.out SZ0.out) SZ0.out⟩⟩
  case rest =>
   obtain ⟨g13, Aw, cw, rfl, rfl, X13, RW, HB⟩ := hcut
   replace X3 := Aside0.mk (blk_below X3.out HB.out)
   replace X4 := Aside0.mk (blk_below X4.out HB.out)
   replace X6 := Aside0.mk (blk_below X6.out HB.out)
   replace HR0_2 := Aside0.mk (Kd.C_below HR0_2.out HB.out)
   replace HR1_2 := Aside0.mk (Kd.C_below HR1_2.out HB.out)
   replace HB1 := Aside0.mk (HB1.out.trans (HB.out.mono HB1.out.size))
   have RW := Aside0.mk (Kd.R_lower RW.out B0.out)
   clear HB H3 RY X11 HR1_1 B0
   go_upto_region 6 with (fail)
   go_cut [15, 16] (fun v15 v16 we => ∃ (A1 : Option Addr) (c1 : Nat), v15 = .slice A1 r3.length c1 ∧ v16 = .bool mok ∧ Aside0 (Kd.R (Kd.int .i64) 3 we wc.heap.size (fun k => some k ≠ (.slice Aw r2.length cw : Value).ownBlock) (.slice A1 r3.length c1) r3) ∧ Aside0 (Kd.R (Kd.int .i64) 3 we w.heap.size (fun k => some k ≠ (.slice A1 r3.length c1 : Value).ownBlock) (.slice Aw r2.length cw) r2) ∧ Aside0 (Below wc.heap.size wc we))
   case first =>
    have HB := Aside0.mk (Below.refl wc.heap.size wc)
    go_region_held3 (fun w' => w'.cell? ⟨q3, 2, none⟩ = some (.slice A0_2 l0_2.length c0_2) ∧ w'.cell? ⟨q4, 2, none⟩ = some (.slice A1_2 l1_2.length c1_2))
     (exact ⟨(blk_cell (mb X3) 2).trans rfl, (blk_cell (mb X4) 2).trans rfl⟩)
     ((go_at_call 154; refine (spec_l8Scaled.calls k A0_2 c0_2 l0_2 (wrap64 (Int.tdiv (wrap64 (-(rd l1_1 a2))) g)) A1_2 c1_2 l1_2 (wrap64 (Int.tdiv (rd l0_1 a2) g)) r3 mok _ (Kd.C_below HR0_2.out (ms HB)) HC0_2.out (Kd.C_below HR1_2.out (ms HB)) HC1_2.out H4.out).mono ?_; rintro e w5 ⟨v5, rfl, ho, hb⟩; obtain ⟨Am, cm, rfl⟩ := Kd.R_slice ho; have RM := Aside0.mk (Kd.R_new' ho (Kd.R_lt (mr RW))); have RW' := rl RW ho hb; replace X3 := bb X3 hb; replace X4 := bb X4 hb; replace HB := bs HB hb; clear ho hb))
    all_goals go_wp2
    all_goals go_meet
    case rel => exact ⟨_, _, rfl, rfl, ⟨Kd.R_mono RM.out (fun _ h => h.2)⟩, ⟨Kd.R_mono RW'.out (fun _ h => h.2)⟩, HB⟩
   case rest =>
    obtain ⟨Am, cm, rfl, rfl, RM, RW, HB⟩ := hcut
    have B1 : Aside0 (w.heap.size ≤ _) := ⟨HB1.out.size⟩
    replace X13 := Aside0.mk (blk_below X13.out HB.out)
    replace X6 := Aside0.mk (blk_below X6.out HB.out)
    replace HB1 := Aside0.mk (HB1.out.trans (HB.out.mono HB1.out.size))
    clear HB X3 X4 HR0_2 HR1_2
    obtain ⟨hz0, hz1⟩ := c2 X13
    obtain ⟨ho0, ho1, ho2⟩ := cl3 X6
    obtain ⟨hf0, hf1, hf2, _⟩ := fz4 X6
    cases t0b <;> cases t1b
    all_goals
     go_wp2_with (((with_reducible refine gate_store (t := 93) (p := 6) rfl ?_); refine store_event (t := 93) (p := 6) (v := ?vo_1) (w1 := set3 wc q6 (.int .i64 r1) (.slice Aw r2.length cw) (.slice Am r3.length cm)) ?hg ?ho ?hn ?hr ?_; (case ho => rfl); (case hg => rfl); (case hn => rfl); (case hr => first | (go_simp; done) | (go_simp; rfl)); intro w9 hw; have X6' : Aside0 (w9.heap[q6]? = some (.cells #[.int .i64 r1, .slice Aw r2.length cw, .slice Am r3.length cm] 93 (0, 0))) := ⟨by rw [hw]; exact put3 X6.out⟩; have RW' : Aside0 (Kd.R (Kd.int .i64) 3 w9 w.heap.size (fun k => some k ≠ (.slice Am r3.length cm : Value).ownBlock) (.slice Aw r2.length cw) r2) := ⟨by rw [hw]; exact own3 RW.out X6.out (by decide)⟩; have RM' : Aside0 (Kd.R (Kd.int .i64) 3 w9 w.heap.size (fun k => some k ≠ (.slice Aw r2.length cw : Value).ownBlock) (.slice Am r3.length cm) r3) := ⟨by rw [hw]; exact own3 (Kd.R_lower RM.out B1.out) X6.out (by decide)⟩; have HB' : Aside0 (Below w.heap.size w w9) := ⟨by rw [hw]; exact below3 HB1.out Gq6.out⟩; clear hw))
     refine bodyPost_ret (results_ct rfl _ _ q6 93 #[.int .i64 r1, .slice Aw r2.length cw, .slice Am r3.length cm] (0, 0) _ rfl X6'.out Try.underlying93 rfl (by kernel_rfl)) rfl ?_
     exact ⟨_, _, rfl, RW'.out, RM'.out, HB'.out⟩

theorem info93h : (Try.prog.info? 93).map (fun i => (i.zero, i.size, i.bytes)) = some (some (.agg #[.int .i64 0, .slice none 0 0, .slice none 0 0]), 3, 56) := by kernel_rfl
theorem k93_mkFe (W : World) (ok : Nat → Prop) (x : S93) {A1 : Option Addr} {c1 : Nat} (l1 : x.f0.f1.length ≤ c1) (g1 : Kd.F (Kd.int .i64) W ok A1 x.f0.f1.length x.f0.f1) {A2 : Option Addr} {c2 : Nat} (l2 : x.f1.length ≤ c2) (g2 : Kd.F (Kd.int .i64) W ok A2 x.f1.length x.f1) : Kd.FK k93 W ok x [.int .i64 x.f0.f0, .slice A1 x.f0.f1.length c1, .slice A2 x.f1.length c2] := fun W2 hW => k93_mk W2 x l1 (g1 W2 hW) l2 (g2 W2 hW)
theorem at_E {w : World} {ok : Nat → Prop} {A : Option Addr} {n : Nat} {xs : List S93} (h : Kd.F k93 w ok A n xs) (i : Int) (h0 : 0 ≤ i) (h1 : i < n) : ∃ ad A1 c1 A2 c2, A = some ad ∧ w.cell? (ad.add (i.toNat * 3)) = some (.int .i64 (rd_T93 xs i).f0.f0) ∧ w.cell? ⟨(ad.add (i.toNat * 3)).block, (ad.add (i.toNat * 3)).off + 1, none⟩ = some (.slice A1 (rd_T93 xs i).f0.f1.length c1) ∧ w.cell? ⟨(ad.add (i.toNat * 3)).block, (ad.add (i.toNat * 3)).off + 2, none⟩ = some (.slice A2 (rd_T93 xs i).f1.length c2) ∧ (rd_T93 xs i).f0.f1.length ≤ c1 ∧ (Kd.int .i64).C w A1 (rd_T93 xs i).f0.f1.length (rd_T93 xs i).f0.f1 ∧ (rd_T93 xs i).f1.length ≤ c2 ∧ (Kd.int .i64).C w A2 (rd_T93 xs i).f1.length (rd_T93 xs i).f1 ∧ Kd.FK k93 w ok (rd_T93 xs i) [.int .i64 (rd_T93 xs i).f0.f0, .slice A1 (rd_T93 xs i).f0.f1.length c1, .slice A2 (rd_T93 xs i).f1.length c2] := by
 obtain ⟨ad, c, e, _, hK, hc0, _⟩ := Kd.F_get h z93 i h0 h1
 have hc : ∀ j u, c[j]? = some u → w.cell? (ad.add (i.toNat * 3 + j)) = some u := hc0
 obtain ⟨A1, c1, A2, c2, rfl, l1, g1, l2, g2⟩ := k93_open (Kd.FK_now hK)
 exact ⟨ad, A1, c1, A2, c2, e, hc 0 _ rfl, by rw [← add_field _ _ 1 (by omega)]; exact hc 1 _ rfl, by rw [← add_field _ _ 2 (by omega)]; exact hc 2 _ rfl, l1, g1, l2, g2, hK⟩
def spec_l8Eliminate.l0 : Nat → List S93 → Int → Int → List S93 → Option (List S93)
 | 0, _, _, _, _ => none
 | n + 1, l, v, i, out => if i < (l.length : Int) then (if 0 ≤ i then (if 0 ≤ v then (if v < ((rd_T93 l i).f0.f1.length : Int) then (if rd (rd_T93 l i).f0.f1 v = 0 then (if out.length < 2513169434916 then (spec_l8Eliminate.l0 n l v (wrap64 (i + 1)) (out ++ [rd_T93 l i])) else none) else (spec_l8Eliminate.l0 n l v (wrap64 (i + 1)) out)) else none) else none) else none) else (some out)
def spec_l8Eliminate.l2 : Nat → List S93 → Int → Int → Int → List S93 → Option (List S93)
 | 0, _, _, _, _, _ => none
 | n + 1, l, v, i, j, out => if j < (l.length : Int) then (if rd (rd_T93 l i).f0.f1 v > 0 then (if 0 ≤ j then (if v < ((rd_T93 l j).f0.f1.length : Int) then (if rd (rd_T93 l j).f0.f1 v ≥ 0 then (spec_l8Eliminate.l2 n l v i (wrap64 (j + 1)) out) else ((spec_l8Join.f n (rd_T93 l i).f0.f0 (rd_T93 l i).f0.f1 (rd_T93 l i).f1 (rd_T93 l j).f0.f0 (rd_T93 l j).f0.f1 (rd_T93 l j).f1 v).bind fun t => (if t.2.2.2 = true then (if out.length < 2513169434916 then (spec_l8Eliminate.l2 n l v i (wrap64 (j + 1)) (out ++ [⟨⟨t.1, t.2.1⟩, t.2.2.1⟩])) else none) else (spec_l8Eliminate.l2 n l v i (wrap64 (j + 1)) out)))) else none) else none) else (some out)) else (some out)
def spec_l8Eliminate.l1 : Nat → List S93 → Int → Int → List S93 → Option (List S93)
 | 0, _, _, _, _ => none
 | n + 1, l, v, i, out => if i < (l.length : Int) then (if 0 ≤ i then (if 0 ≤ v then (if v < ((rd_T93 l i).f0.f1.length : Int) then ((spec_l8Eliminate.l2 n l v i 0 out).bind fun o => (spec_l8Eliminate.l1 n l v (wrap64 (i + 1)) o)) else none) else none) else none) else (some out)
def spec_l8Eliminate.f (n : Nat) (l : List S93) (v : Int) : Option (List S93) := (spec_l8Eliminate.l0 n l v 0 []).bind fun o => spec_l8Eliminate.l1 n l v 0 o
set_option maxHeartbeats 8000000 in
set_option maxRecDepth 100000 in
theorem spec_l8Eliminate.calls (n : Nat) (A0 : Option Addr) (c0 : Nat) (l : List S93) (v : Int) (r : List S93) (w : World) (hF : Kd.F k93 w (fun k => k < w.heap.size) A0 l.length l) (hc : l.length ≤ c0) (h : spec_l8Eliminate.f n l v = some r) :
  Calls Try.prog 83 #[.slice A0 l.length c0, .int .i64 v] w fun e w' => ∃ v0 : Value, e = .returned v0 ∧ Kd.N k93 93 w' w.heap.size (fun _ => True) v0 r ∧ Below w.heap.size w w' := by
 have hu93 := Try.underlying93
 have hu29 := Try.underlying29
 unfold spec_l8Eliminate.f at h
 obtain ⟨o1, A1, A2⟩ := Option.bind_eq_some_iff.mp h
 have H1 : Aside0 (spec_l8Eliminate.l0 n l v 0 [] = some o1) := ⟨A1⟩
 have H2 : Aside0 (spec_l8Eliminate.l1 n l v 0 o1 = some r) := ⟨A2⟩
 have HF := Aside0.mk hF
 have HC := Aside0.mk hc
 clear h A1 A2 hF hc
 go_enter Try.func83, Try.ntmps83
 go_wp2_with ((with_reducible refine gate_dst (N := 11) rfl ?_); refine Kd.N_lit k93 w.heap.size 93 ?hg (N' := 11) ?hd (xs := ([] : List S93)) (inner := []) (ok := fun _ => True) (okp := fun _ => True) ?hr ?hp (fun _ hk => hk) trivial (Below.refl _ _) (Nat.le_refl _) (by simp) ?_; (case hd => rfl); (case hg => rfl); (case hr => first | (go_simp; done) | (go_simp; rfl)); (case hp => exact (Reps.none _ _)); intro v5 w3 ho hb hg_ hnew_; have HN0 := Aside0.mk ho; have HB0 := Aside0.mk hb; clear hg_ hnew_ ho hb)
 go_loopg [6, 5] n (fun kq v6 v5 w' => ∃ (i : Int) (out : List S93), v6 = .int .i64 i ∧ Aside0 (spec_l8Eliminate.l0 kq l v i out = some o1) ∧ Aside0 (kq ≤ n) ∧ Aside0 (Kd.N k93 93 w' w.heap.size (fun _ => True) v5 out) ∧ Aside0 (Below w.heap.size w w'))
 case atStart => exact ⟨0, [], rfl, H1, ⟨Nat.le_refl _⟩, ⟨HN0.out⟩, ⟨HB0.out⟩⟩
 case round =>
  obtain ⟨i, out, rfl, HA, HK, HN, HB⟩ := hrel
  cases gk with
  | zero => exact absurd HA.out (by simp [spec_l8Eliminate.l0])
  | succ k1 =>
   have H := HA.out
   clear HA
   simp only [spec_l8Eliminate.l0] at H
   by_cases c3 : i < (l.length : Int)
   ·rw [if_pos c3] at H
    by_cases c4 : 0 ≤ i
    ·rw [if_pos c4] at H
     by_cases c5 : 0 ≤ v
     ·rw [if_pos c5] at H
      by_cases c6 : v < ((rd_T93 l i).f0.f1.length : Int)
      ·rw [if_pos c6] at H
       obtain ⟨ad, A1, c1, A2, c2, rfl, hc0, hc1, hc2, hl1, hC, hl2, hC2, hK⟩ := at_E (Kd.F_below HF.out HB.out) i c4 c3
       obtain ⟨ad1, e1, hx1⟩ := Kd.at_int hC v c5 c6
       cases e1
       have HE := Aside0.mk hK
       clear hl1 hC hl2 hC2 hK
       have c3b : decide (i < (l.length : Int)) = true := decide_eq_true c3
       replace c3 := eq_true c3
       replace c4 := eq_true c4
       replace c5 := eq_true c5
       replace c6 := eq_true c6
       by_cases c7 : rd (rd_T93 l i).f0.f1 v = 0
       ·rw [if_pos c7] at H
        by_cases c8 : out.length < 2513169434916
        ·rw [if_pos c8] at H
         have H' := Aside0.mk H
         have C6 := Aside0.mk c8
         clear H c8
         go_wp2_with (at_builtin; refine Kd.N_append k93 (w0 := w) w.heap.size rfl (.tmp 28) (.tmp 33) 91 93 (.agg #[.int .i64 0, .slice none 0 0, .slice none 0 0]) 56 rfl Try.underlying91 info93h rfl (by decide) (by omega) u5 out (rd_T93 l i) [.int .i64 (rd_T93 l i).f0.f0, .slice (some ad1) (rd_T93 l i).f0.f1.length c1, .slice A2 (rd_T93 l i).f1.length c2] (fun _ => True) (fun k => k < w.heap.size) rfl rfl ?aP ?aK (fun _ _ => trivial) ?aO ?aB ?aS ?aL ?_; (case aP => exact HE.out); (case aK => exact fun k hk => ⟨trivial, fun e => by have := Kd.N_base HN.out k e.symm; omega⟩); (case aO => exact HN.out); (case aB => exact HB.out); (case aS => exact HB.out.size); (case aL => have := C6.out; omega); intro vo' w10 ho hb hg hat; have HN' := Aside0.mk ho; have HB' := Aside0.mk hb; clear ho hb hg hat)
         go_roundg k1
         case measure => have := HK.out; omega
         case rel => exact ⟨wrap64 (i + 1), out ++ [rd_T93 l i], (by first | rfl | (simp; done) | (simp [*]; done)), H', ⟨by have := HK.out; omega⟩, HN', HB'⟩
        rw [if_neg c8] at H; cases H
       rw [if_neg c7] at H
       have H' := Aside0.mk H
       clear H
       have c7b := decide_eq_false c7
       go_wp2
       go_roundg k1
       case measure => have := HK.out; omega
       case rel => exact ⟨wrap64 (i + 1), out, (by first | rfl | (simp; done) | (simp [*]; done)), H', ⟨by have := HK.out; omega⟩, HN, HB⟩
      rw [if_neg c6] at H; cases H
     rw [if_neg c5] at H; cases H
    rw [if_neg c4] at H; cases H
   rw [if_neg c3] at H
   simp only [Option.some.injEq] at H
   subst H
   have c3b : decide (i < (l.length : Int)) = false := decide_eq_false c3
   clear c3
   go_wp2
   clear H1
   go_loopg [7, 5] n (fun kq v7 v5 w' => ∃ (i : Int) (out : List S93), v7 = .int .i64 i ∧ Aside0 (spec_l8Eliminate.l1 kq l v i out = some r) ∧ Aside0 (kq ≤ n) ∧ Aside0 (Kd.N k93 93 w' w.heap.size (fun _ => True) v5 out) ∧ Aside0 (Below w.heap.size w w'))
   case atStart => exact ⟨0, _, rfl, H2, ⟨Nat.le_refl _⟩, HN, HB⟩
   case round =>
    clear H2 HN HB HN0 HB0
    obtain ⟨i, out, rfl, HA, HK, HN, HB⟩ := hrel
    cases gk with
    | zero => exact absurd HA.out (by simp [spec_l8Eliminate.l1])
    | succ k1 =>
     have H := HA.out
     clear HA
     simp only [spec_l8Eliminate.l1] at H
     by_cases c3 : i < (l.length : Int)
     ·rw [if_pos c3] at H
      by_cases c4 : 0 ≤ i
      ·rw [if_pos c4] at H
       by_cases c5 : 0 ≤ v
       ·rw [if_pos c5] at H
        by_cases c6 : v < ((rd_T93 l i).f0.f1.length : Int)
        ·rw [if_pos c6] at H
         obtain ⟨o2, A3, H⟩ := Option.bind_eq_some_iff.mp H
         have H3 := Aside0.mk A3
         have H' := Aside0.mk H
         clear H A3
         obtain ⟨ad, A1, c1, A2, c2, rfl, hc0, hc1, hc2, hl1, hC, hl2, hC2, hK⟩ := at_E HF.out i c4 c3
         obtain ⟨ad1, e1, hx1⟩ := Kd.at_int hC v c5 c6
         cases e1
         have P0 := Aside0.mk hc0
         have P1 := Aside0.mk hc1
         have P2 := Aside0.mk hc2
         have PX := Aside0.mk hx1
         have HC1 := Aside0.mk hC
         have HL1 := Aside0.mk hl1
         have HC2 := Aside0.mk hC2
         have HL2 := Aside0.mk hl2
         have I0 := Aside0.mk c4
         have I1 := Aside0.mk c3
         have V0 := Aside0.mk c5
         have V1 := Aside0.mk c6
         have c3b : decide (i < (l.length : Int)) = true := decide_eq_true c3
         clear hc0 hc1 hc2 hx1 hC hl1 hC2 hl2 hK c3 c4 c5 c6
         go_wp2
         go_loopg [8, 5] k1 (fun kq v8 v5 w' => ∃ (j : Int) (out : List S93), v8 = .int .i64 j ∧ Aside0 (spec_l8Eliminate.l2 kq l v i j out = some o2) ∧ Aside0 (kq ≤ k1) ∧ Aside0 (Kd.N k93 93 w' w.heap.size (fun _ => True) v5 out) ∧ Aside0 (Below w.heap.size w w'))
         case atStart => exact ⟨0, _, rfl, H3, ⟨Nat.le_refl _⟩, HN, HB⟩
         case round =>
          clear H3 HN HB
          obtain ⟨j, out, rfl, HA, HK2, HN, HB⟩ := hrel
          have hi0 := (HB.out.cell (World.block_lt_of_cell? _ _ P0.out)).trans P0.out
          have hi1 := (HB.out.cell (World.block_lt_of_cell? _ _ P1.out)).trans P1.out
          have hi2 := (HB.out.cell (World.block_lt_of_cell? _ _ P2.out)).trans P2.out
          have hix := (HB.out.cell (World.block_lt_of_cell? _ _ PX.out)).trans PX.out
          cases gk with
          | zero => exact absurd HA.out (by simp [spec_l8Eliminate.l2])
          | succ k2 =>
           have H := HA.out
           clear HA
           simp only [spec_l8Eliminate.l2] at H
           have i0 := eq_true I0.out
           have i1 := eq_true I1.out
           have v0 := eq_true V0.out
           have v1 := eq_true V1.out
           by_cases c3 : j < (l.length : Int)
           ·rw [if_pos c3] at H
            have c3b : decide (j < (l.length : Int)) = true := decide_eq_true c3
            by_cases c7 : rd (rd_T93 l i).f0.f1 v > 0
            ·rw [if_pos c7] at H
             have c7b := decide_eq_true c7
             by_cases c4 : 0 ≤ j
             ·rw [if_pos c4] at H
              by_cases c6 : v < ((rd_T93 l j).f0.f1.length : Int)
              ·rw [if_pos c6] at H
               obtain ⟨ad_, B1, d1, B2, d2, he_, hj0, hj1, hj2, hl1, hC, hl2, hC2, hK⟩ := at_E HF.out j c4 c3
               cases he_
               obtain ⟨ad2, e1, hjx⟩ := Kd.at_int hC v V0.out c6
               cases e1
               replace hj0 := (HB.out.cell (World.block_lt_of_cell? _ _ hj0)).trans hj0
               replace hj1 := (HB.out.cell (World.block_lt_of_cell? _ _ hj1)).trans hj1
               replace hj2 := (HB.out.cell (World.block_lt_of_cell? _ _ hj2)).trans hj2
               replace hjx := (HB.out.cell (World.block_lt_of_cell? _ _ hjx)).trans hjx
               have HD1 := Aside0.mk hC
               have HM1 := Aside0.mk hl1
               have HD2 := Aside0.mk hC2
               have HM2 := Aside0.mk hl2
               clear hC hl1 hC2 hl2 hK
               replace c3 := eq_true c3
               replace c4 := eq_true c4
               replace c6 := eq_true c6
               by_cases c8 : rd (rd_T93 l j).f0.f1 v ≥ 0
               ·rw [if_pos c8] at H
                have H6 := Aside0.mk H
                clear H
                have c8b := decide_eq_true c8
                go_wp2
                go_roundg k2
                case measure => have := HK2.out; omega
                case rel => exact ⟨wrap64 (j + 1), out, (by first | rfl | (simp; done) | (simp [*]; done)), H6, ⟨by have := HK2.out; omega⟩, HN, HB⟩
               rw [if_neg c8] at H
               have c8b := decide_eq_false c8
               obtain ⟨⟨t1, t2, t3, t4⟩, A5, H⟩ := Option.bind_eq_some_iff.mp H
               have H5 := Aside0.mk A5
               have H6 := Aside0.mk H
               clear H A5
               go_wp2
               clear c7 c7b c8 c8b hix hjx
               go_cut [9, 10] (fun v9 v10 wc => ∃ (g9 : Nat) (v1 v2 : Value), v9 = .pointer (some ⟨g9, 0, none⟩) ∧ v10 = .bool t4 ∧ Aside0 (wc.heap[g9]? = some (.cells #[.int .i64 t1, v1, v2] 93 (0, 0))) ∧ Aside0 (Kd.R (Kd.int .i64) 3 wc wr.heap.size (fun _ => True) v1 t2) ∧ Aside0 (Kd.R (Kd.int .i64) 3 wc wr.heap.size (fun _ => True) v2 t3) ∧ Aside0 (Below wr.heap.size wr wc))
               case first =>
                have HZ := Aside0.mk (Below.refl wr.heap.size wr)
                have SZ0 := Aside0.mk (Nat.le_refl wr.heap.size)
                go_region_held3 (fun w' => w'.cell? (ad.add (i.toNat * 3)) = some (.int .i64 (rd_T93 l i).f0.f0) ∧ w'.cell? ⟨(ad.add (i.toNat * 3)).block, (ad.add (i.toNat * 3)).off + 1, none⟩ = some (.slice (some ad1) (rd_T93 l i).f0.f1.length c1) ∧ w'.cell? ⟨(ad.add (i.toNat * 3)).block, (ad.add (i.toNat * 3)).off + 2, none⟩ = some (.slice A2 (rd_T93 l i).f1.length c2) ∧ w'.cell? (ad.add (j.toNat * 3)) = some (.int .i64 (rd_T93 l j).f0.f0) ∧ w'.cell? ⟨(ad.add (j.toNat * 3)).block, (ad.add (j.toNat * 3)).off + 1, none⟩ = some (.slice (some ad2) (rd_T93 l j).f0.f1.length d1) ∧ w'.cell? ⟨(ad.add (j.toNat * 3)).block, (ad.add (j.toNat * 3)).off + 2, none⟩ = some (.slice B2 (rd_T93 l j).f1.length d2))
                 (exact ⟨((ms HZ).cell (World.block_lt_of_cell? _ _ hi0)).trans hi0, ((ms HZ).cell (World.block_lt_of_cell? _ _ hi1)).trans hi1, ((ms HZ).cell (World.block_lt_of_cell? _ _ hi2)).trans hi2, ((ms HZ).cell (World.block_lt_of_cell? _ _ hj0)).trans hj0, ((ms HZ).cell (World.block_lt_of_cell? _ _ hj1)).trans hj1, ((ms HZ).cell (World.block_lt_of_cell? _ _ hj2)).trans hj2⟩)
                 ((go_at_call 131; refine (spec_l8Join.calls k2 (rd_T93 l i).f0.f0 (some ad1) c1 (rd_T93 l i).f0.f1 A2 c2 (rd_T93 l i).f1 (rd_T93 l j).f0.f0 (some ad2) d1 (rd_T93 l j).f0.f1 B2 d2 (rd_T93 l j).f1 v t1 t2 t3 t4 _ (Kd.C_below HC1.out (HB.out.trans ((ms HZ).mono HB.out.size))) HL1.out (Kd.C_below HC2.out (HB.out.trans ((ms HZ).mono HB.out.size))) HL2.out (Kd.C_below HD1.out (HB.out.trans ((ms HZ).mono HB.out.size))) HM1.out (Kd.C_below HD2.out (HB.out.trans ((ms HZ).mono HB.out.size))) HM2.out H5.out).mono ?_; rintro e w8 ⟨v1, v2, rfl, h1, h2, hb⟩; obtain ⟨D1, e1, rfl⟩ := Kd.R_slice h1; obtain ⟨D2, e2, rfl⟩ := Kd.R_slice h2; have R1 : Aside0 (Kd.R (Kd.int .i64) 3 w8 wr.heap.size (fun _ => True) (.slice D1 t2.length e1) t2) := ⟨Kd.R_lower (Kd.R_mono h1 (fun _ _ => trivial)) (below_size (ms HZ))⟩; have R2 : Aside0 (Kd.R (Kd.int .i64) 3 w8 wr.heap.size (fun _ => True) (.slice D2 t3.length e2) t3) := ⟨Kd.R_lower (Kd.R_mono h2 (fun _ _ => trivial)) (below_size (ms HZ))⟩; replace HZ := bs HZ hb; have SZ := Aside0.mk HZ.out.size; (first | have X15 := Aside0.mk (blk_below (heap_alloc_new _ _) hb) | have X15 := Aside0.mk (blk_below (blk_drew (heap_alloc_new _ _)) hb) | skip); (try (have hz0 := (blk_cell X15.out 0).trans (rfl : _ = some (Value.int .i64 0)); have hz1 := (blk_cell X15.out 1).trans (rfl : _ = some (Value.slice none 0 0)); have hz2 := (blk_cell X15.out 2).trans (rfl : _ = some (Value.slice none 0 0)); have hf0 := blk_frozen X15.out 0; have hf1 := blk_frozen X15.out 1; have hf2 := blk_frozen X15.out 2; (try simp only [World.drew] at hz0 hz1 hz2 hf0 hf1 hf2))); clear h1 h2 hb))
                all_goals go_wp2
                all_goals go_meet
                case rel => exact ⟨_, _, _, rfl, rfl, ⟨heap_alloc_new _ _⟩, ⟨Kd.R_alloc R1.out _⟩, ⟨Kd.R_alloc R2.out _⟩, ⟨below_alloc HZ.out _⟩⟩
                case rel => exact ⟨_, _, _, rfl, rfl, ⟨put3 X15.out⟩, ⟨own3 R1.out X15.out (by decide)⟩, ⟨own3 R2.out X15.out (by decide)⟩, ⟨below3 HZ.out (Nat.le_refl _)⟩⟩
               case rest =>
                obtain ⟨g9, v1, v2, rfl, rfl, X15, R1, R2, HZ⟩ := hcut
                clear hi0 hi1 hi2 hj0 hj1 hj2
                obtain ⟨D1, e1, rfl⟩ := Kd.R_slice R1.out
                obtain ⟨D2, e2, rfl⟩ := Kd.R_slice R2.out
                obtain ⟨hp0, hp1, hp2⟩ := cl3 X15
                by_cases c9 : t4 = true
                ·subst c9
                 have H := H6.out
                 rw [if_pos rfl] at H
                 by_cases c10 : out.length < 2513169434916
                 ·rw [if_pos c10] at H
                  have H7 := Aside0.mk H
                  have C10 := Aside0.mk c10
                  clear H c10
                  go_wp2_with (at_builtin; refine Kd.N_append k93 (w0 := w) w.heap.size rfl (.tmp 83) (.tmp 85) 91 93 (.agg #[.int .i64 0, .slice none 0 0, .slice none 0 0]) 56 rfl Try.underlying91 info93h rfl (by decide) (by omega) u5 out ⟨⟨t1, t2⟩, t3⟩ [.int .i64 t1, .slice D1 t2.length e1, .slice D2 t3.length e2] (fun _ => True) (fun k => wr.heap.size ≤ k) rfl rfl ?bP ?bK (fun _ _ => trivial) ?bO ?bB ?bS ?bL ?_; (case bP => exact k93_mkFe _ _ ⟨⟨t1, t2⟩, t3⟩ (Kd.R_reads' R1.out).2.1 (Kd.R_F (Kd.R_mono (Kd.R_bound R1.out) (fun k hk => hk.2.1))) (Kd.R_reads' R2.out).2.1 (Kd.R_F (Kd.R_mono (Kd.R_bound R2.out) (fun k hk => hk.2.1)))); (case bK => exact fun k hk => ⟨trivial, fun e => by have := Kd.N_lt HN.out k e.symm; omega⟩); (case bO => exact Kd.N_below HN.out HZ.out); (case bB => exact HB.out.trans (HZ.out.mono HB.out.size)); (case bS => exact Nat.le_trans HB.out.size HZ.out.size); (case bL => have := C10.out; omega); intro vo' w10 ho hb hg hat; have HN' := Aside0.mk ho; have HB' := Aside0.mk hb; clear ho hb hg hat)
                  go_roundg k2
                  case measure => have := HK2.out; omega
                  case rel => exact ⟨wrap64 (j + 1), out ++ [⟨⟨t1, t2⟩, t3⟩], (by first | rfl | (simp; done) | (simp [*]; done)), H7, ⟨by have := HK2.out; omega⟩, HN', HB'⟩
                 rw [if_neg c10] at H; cases H
                have c9' : t4 = false := by cases t4 with | true => exact absurd rfl c9 | false => rfl
                subst c9'
                have H := H6.out
                rw [if_neg (by decide)] at H
                have H7 := Aside0.mk H
                clear H
                go_wp2
                go_roundg k2
                case measure => have := HK2.out; omega
                case rel => exact ⟨wrap64 (j + 1), out, (by first | rfl | (simp; done) | (simp [*]; done)), H7, ⟨by have := HK2.out; omega⟩, ⟨Kd.N_below HN.out HZ.out⟩, ⟨HB.out.trans (HZ.out.mono HB.out.size)⟩⟩
              rw [if_neg c6] at H; cases H
             rw [if_neg c4] at H; cases H
            rw [if_neg c7] at H
            simp only [Option.some.injEq] at H
            subst H
            have c7b := decide_eq_false c7
            have c3t := eq_true c3
            go_wp2
            go_roundg k1
            case measure => have := HK.out; omega
            case rel => exact ⟨wrap64 (i + 1), out, (by first | rfl | (simp; done) | (simp [*]; done)), H', ⟨by have := HK.out; omega⟩, HN, HB⟩
           rw [if_neg c3] at H
           simp only [Option.some.injEq] at H
           subst H
           have c3b : decide (j < (l.length : Int)) = false := decide_eq_false c3
           clear c3
           go_wp2
           go_roundg k1
           case measure => have := HK.out; omega
           case rel => exact ⟨wrap64 (i + 1), out, (by first | rfl | (simp; done) | (simp [*]; done)), H', ⟨by have := HK.out; omega⟩, HN, HB⟩
        rw [if_neg c6] at H; cases H
       rw [if_neg c5] at H; cases H
      rw [if_neg c4] at H; cases H
     rw [if_neg c3] at H
     simp only [Option.some.injEq] at H
     subst H
     have c3b : decide (i < (l.length : Int)) = false := decide_eq_false c3
     clear c3
     go_wp2
     go_ret
     exact ⟨_, rfl, HN.out, HB.out⟩
theorem spec_l8Eliminate.l0_mono : ∀ k a b c d, LeO (spec_l8Eliminate.l0 k a b c d) (spec_l8Eliminate.l0 (k + 1) a b c d) := by
 intro k
 induction k with
 | zero => intros; exact LeO.none _
 | succ k ih =>
  intro a b c d
  rw [spec_l8Eliminate.l0, spec_l8Eliminate.l0]
  repeat' first | exact LeO.refl _ | exact ih _ _ _ _ | apply LeO.ite | refine LeO.bind ?_ (fun _ => ?_)
theorem spec_l8Eliminate.l2_mono : ∀ k a b c d e, LeO (spec_l8Eliminate.l2 k a b c d e) (spec_l8Eliminate.l2 (k + 1) a b c d e) := by
 intro k
 induction k with
 | zero => intros; exact LeO.none _
 | succ k ih =>
  intro a b c d e
  rw [spec_l8Eliminate.l2, spec_l8Eliminate.l2]
  repeat' first | exact LeO.refl _ | exact ih _ _ _ _ _ | exact spec_l8Join.mono _ _ _ _ _ _ _ _ | apply LeO.ite | refine LeO.bind ?_ (fun _ => ?_)
theorem spec_l8Eliminate.l1_mono : ∀ k a b c d, LeO (spec_l8Eliminate.l1 k a b c d) (spec_l8Eliminate.l1 (k + 1) a b c d) := by
 intro k
 induction k with
 | zero => intros; exact LeO.none _
 | succ k ih =>
  intro a b c d
  rw [spec_l8Eliminate.l1, spec_l8Eliminate.l1]
  repeat' first | exact LeO.refl _ | exact ih _ _ _ _ | exact spec_l8Eliminate.l2_mono _ _ _ _ _ _ | apply LeO.ite | refine LeO.bind ?_ (fun _ => ?_)
theorem spec_l8Eliminate.mono : ∀ a b k, LeO (spec_l8Eliminate.f k a b) (spec_l8Eliminate.f (k + 1) a b) := by
 intro a b k
 exact LeO.bind (spec_l8Eliminate.l0_mono _ _ _ _ _) (fun _ => spec_l8Eliminate.l1_mono _ _ _ _ _)

end Go.Proofs.Ytlencemmlgkflaa.QFnFound
