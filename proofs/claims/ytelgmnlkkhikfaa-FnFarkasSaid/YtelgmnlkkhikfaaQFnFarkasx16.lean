-- Made by a program of this claim's own (wip/print): not the kit's print as it stands.
import Derived.Test.YtelgmnlkkhikfaaUFnFarkasTri
import Derived.Test.YtelgmnlkkhikfaaQFnFarkasx0
import Derived.Test.YtelgmnlkkhikfaaQFnFarkasx11
import Derived.Test.YtelgmnlkkhikfaaQFnFarkasx12
import Derived.Test.YtelgmnlkkhikfaaQFnFarkasx13
import Derived.Test.YtelgmnlkkhikfaaQFnFarkasx14
import Derived.Test.YtelgmnlkkhikfaaQFnFarkasx15
namespace Go.Proofs.Ytelgmnlkkhikfaa.QFnFarkas
open Go.RowKit Go.Proofs.YtelgmnlkkhikfaaV.PrintWords Go.Proofs.YtelgmnlkkhikfaaV.PrintLast Go.Proofs.YtelgmnlkkhikfaaV.PrintMore
attribute [local go_sem] max2_int min2_int max_two min_two max_three min_three max_four min_four   -- for this text's walks alone
set_option linter.unusedVariables false
set_option linter.unusedSimpArgs false

/-! ### impl_CheckFarkas: function 27 -/
mutual
def impl_CheckFarkas.j0 : Nat → Bool → Int → List (S36) → Int → List Int → Int → List Int → Option (Bool)
 | 0, _, _, _, _, _, _, _ => none
 | k + 1, x28, x471000, x471001, x472000, x472001, x473000, x473001 => if x28 = true then (some false) else ((impl_CombineRows.f k x471000 x471001 x473001).bind fun bt476 => ((impl_plus.f k x472000 x472001 1).bind fun bt482 => (if bt476.2.2 = true then (impl_CheckFarkas.j1 k (!bt482.2.2) x473000 x473001 bt476.1 bt476.2.1 bt482.1 bt482.2.1) else (impl_CheckFarkas.j1 k true x473000 x473001 bt476.1 bt476.2.1 bt482.1 bt482.2.1))))
def impl_CheckFarkas.j1 : Nat → Bool → Int → List Int → Int → List Int → Int → List Int → Option (Bool)
 | 0, _, _, _, _, _, _, _ => none
 | k + 1, x46, x473000, x473001, x482000, x482001, x488000, x488001 => if x46 = true then (some false) else ((impl_AddScaled.f k x482000 x482001 (wrap64 (-x473000)) x488000 x488001).bind fun bt488 => (if bt488.2.2 = true then ((impl_IsConstant.f k bt488.1 bt488.2.1).bind fun t494 => (if t494 = true then (some (decide (bt488.1 < 0))) else (some false))) else (some false)))
end
def impl_CheckFarkas.f (k : Nat) (a0_0 : Int) (l0_1 : List (S36)) (a1_0 : Int) (l1_1 : List Int) (a2_0 : Int) (l2_1 : List Int) : Option (Bool) := (impl_IsValidSystem.f k a0_0 l0_1).bind fun t473 => (if t473 = true then ((impl_IsValidLin.f k a1_0 l1_1 a0_0).bind fun t474 => (if t474 = true then ((impl_within.f a2_0 0 1000000000).bind fun t475 => (impl_CheckFarkas.j0 k (!t475) a0_0 l0_1 a1_0 l1_1 a2_0 l2_1)) else (impl_CheckFarkas.j0 k true a0_0 l0_1 a1_0 l1_1 a2_0 l2_1))) else (impl_CheckFarkas.j0 k true a0_0 l0_1 a1_0 l1_1 a2_0 l2_1))
theorem impl_CheckFarkas.mono_l : ∀ k, (∀ y0 y1 y2 y3 y4 y5 y6, LeO (impl_CheckFarkas.j0 k y0 y1 y2 y3 y4 y5 y6) (impl_CheckFarkas.j0 (k + 1) y0 y1 y2 y3 y4 y5 y6)) ∧ (∀ y0 y1 y2 y3 y4 y5 y6, LeO (impl_CheckFarkas.j1 k y0 y1 y2 y3 y4 y5 y6) (impl_CheckFarkas.j1 (k + 1) y0 y1 y2 y3 y4 y5 y6))
 | 0 => ⟨fun _ _ _ _ _ _ _ r h => by simp [impl_CheckFarkas.j0] at h, fun _ _ _ _ _ _ _ r h => by simp [impl_CheckFarkas.j1] at h⟩
 | k + 1 => by
  obtain ⟨ih0, ih1⟩ := impl_CheckFarkas.mono_l k
  refine ⟨?_, ?_⟩
  ·intro y0 y1 y2 y3 y4 y5 y6
   unfold impl_CheckFarkas.j0
   repeat' with_reducible first
   | exact ih0 _ _ _ _ _ _ _
   | exact ih1 _ _ _ _ _ _ _
   | exact impl_AddScaled.mono _ _ _ _ _ _
   | exact impl_CombineRows.mono _ _ _ _
   | exact impl_IsConstant.mono _ _ _
   | exact impl_IsValidLin.mono _ _ _ _
   | exact impl_IsValidSystem.mono _ _ _
   | exact impl_plus.mono _ _ _ _
   | exact LeO.refl _
   | exact LeO.none _
   | refine LeO.ite ?_ ?_
   | refine LeO.bind ?_ (fun _ => ?_)
  intro y0 y1 y2 y3 y4 y5 y6
  unfold impl_CheckFarkas.j1
  repeat' with_reducible first
  | exact ih0 _ _ _ _ _ _ _
  | exact ih1 _ _ _ _ _ _ _
  | exact impl_AddScaled.mono _ _ _ _ _ _
  | exact impl_CombineRows.mono _ _ _ _
  | exact impl_IsConstant.mono _ _ _
  | exact impl_IsValidLin.mono _ _ _ _
  | exact impl_IsValidSystem.mono _ _ _
  | exact impl_plus.mono _ _ _ _
  | exact LeO.refl _
  | exact LeO.none _
  | refine LeO.ite ?_ ?_
  | refine LeO.bind ?_ (fun _ => ?_)
theorem impl_CheckFarkas.mono : ∀ a0 a1 a2 a3 a4 a5 k, LeO (impl_CheckFarkas.f k a0 a1 a2 a3 a4 a5) (impl_CheckFarkas.f (k + 1) a0 a1 a2 a3 a4 a5) := by
 intro a0 a1 a2 a3 a4 a5 k
 obtain ⟨ih0, ih1⟩ := impl_CheckFarkas.mono_l k
 unfold impl_CheckFarkas.f
 repeat' with_reducible first
 | exact ih0 _ _ _ _ _ _ _
 | exact ih1 _ _ _ _ _ _ _
 | exact impl_AddScaled.mono _ _ _ _ _ _
 | exact impl_CombineRows.mono _ _ _ _
 | exact impl_IsConstant.mono _ _ _
 | exact impl_IsValidLin.mono _ _ _ _
 | exact impl_IsValidSystem.mono _ _ _
 | exact impl_plus.mono _ _ _ _
 | exact LeO.refl _
 | exact LeO.none _
 | refine LeO.ite ?_ ?_
 | refine LeO.bind ?_ (fun _ => ?_)
set_option maxHeartbeats 8000000 in
set_option maxRecDepth 100000 in
theorem impl_CheckFarkas.calls (k : Nat) (a0_0 : Int) (A0_1 : Option Addr) (c0_1 : Nat) (l0_1 : List (S36)) (a1_0 : Int) (A1_1 : Option Addr) (c1_1 : Nat) (l1_1 : List Int) (a2_0 : Int) (A2_1 : Option Addr) (c2_1 : Nat) (l2_1 : List Int) (r : Bool) (w : World) (hr0_1 : Kd.C k36 w A0_1 l0_1.length l0_1) (hc0_1 : l0_1.length ≤ c0_1) (hr1_1 : Kd.C (Kd.int .i64) w A1_1 l1_1.length l1_1) (hc1_1 : l1_1.length ≤ c1_1) (hr2_1 : Kd.C (Kd.int .i64) w A2_1 l2_1.length l2_1) (hc2_1 : l2_1.length ≤ c2_1) (h : impl_CheckFarkas.f k a0_0 l0_1 a1_0 l1_1 a2_0 l2_1 = some r) :
  Calls Try.prog 27 #[.agg #[.int .i64 a0_0, .slice A0_1 l0_1.length c0_1], .agg #[.int .i64 a1_0, .slice A1_1 l1_1.length c1_1], .agg #[.int .i64 a2_0, .slice A2_1 l2_1.length c2_1]] w fun e w' => e = .returned (.bool r) ∧ Below w.heap.size w w' := by
 have hu33 := Try.underlying33
 have hu36 := Try.underlying36
 have hu38 := Try.underlying38
 have HR0_1 := Aside0.mk hr0_1
 have HC0_1 := Aside0.mk hc0_1
 clear hr0_1 hc0_1
 have HR1_1 := Aside0.mk hr1_1
 have HC1_1 := Aside0.mk hc1_1
 clear hr1_1 hc1_1
 have HR2_1 := Aside0.mk hr2_1
 have HC2_1 := Aside0.mk hc2_1
 clear hr2_1 hc2_1
 have HB := Aside0.mk (Below.refl w.heap.size w)
 have H : ((impl_IsValidSystem.f k a0_0 l0_1).bind fun t473 => (if t473 = true then ((impl_IsValidLin.f k a1_0 l1_1 a0_0).bind fun t474 => (if t474 = true then ((impl_within.f a2_0 0 1000000000).bind fun t475 => (impl_CheckFarkas.j0 k (!t475) a0_0 l0_1 a1_0 l1_1 a2_0 l2_1)) else (impl_CheckFarkas.j0 k true a0_0 l0_1 a1_0 l1_1 a2_0 l2_1))) else (impl_CheckFarkas.j0 k true a0_0 l0_1 a1_0 l1_1 a2_0 l2_1))) = some r := h
 clear h
 have HC4 := Aside0.mk H
 clear H
 go_enter Try.func27, Try.ntmps27
 go_upto_region 1 with (first | ((with_reducible refine gate_dst (N := 3) rfl ?_); refine box_event ?hg (N := 3) ?hd (cs := #[.int .i64 a0_0, .slice A0_1 l0_1.length c0_1]) (t := 33) ?hr ?_; (case hd => rfl); (case hg => rfl); (case hr => first | (go_simp; done) | (go_simp; rfl)); intro gb470 hg w5 hbox hb; have BK470 := Aside0.mk (hbox); have GW470 := gw hg HB; have GE470 := gw hg HB; replace HB := bs HB hb; clear hb hbox hg) | ((with_reducible refine gate_dst (N := 4) rfl ?_); refine box_event ?hg (N := 4) ?hd (cs := #[.int .i64 a1_0, .slice A1_1 l1_1.length c1_1]) (t := 36) ?hr ?_; (case hd => rfl); (case hg => rfl); (case hr => first | (go_simp; done) | (go_simp; rfl)); intro gb471 hg w6 hbox hb; have BK471 := Aside0.mk (hbox); have GW471 := gw hg HB; have GE471 := gw hg HB; replace HB := bs HB hb; have NB470_471 := nl hg BK470; have NB471_470 := ng hg BK470; replace BK470 := bb BK470 hb; clear hb hbox hg) | ((with_reducible refine gate_dst (N := 5) rfl ?_); refine box_event ?hg (N := 5) ?hd (cs := #[.int .i64 a2_0, .slice A2_1 l2_1.length c2_1]) (t := 38) ?hr ?_; (case hd => rfl); (case hg => rfl); (case hr => first | (go_simp; done) | (go_simp; rfl)); intro gb472 hg w7 hbox hb; have BK472 := Aside0.mk (hbox); have GW472 := gw hg HB; have GE472 := gw hg HB; replace HB := bs HB hb; have NB470_472 := nl hg BK470; have NB472_470 := ng hg BK470; replace BK470 := bb BK470 hb; have NB471_472 := nl hg BK471; have NB472_471 := ng hg BK471; replace BK471 := bb BK471 hb; clear hb hbox hg))
 (try simp only [Act.put, List.setIfInBounds_toArray, List.set_cons_zero, List.set_cons_succ])
 go_cut [28] (fun v28 wc => ∃ (kq : Nat) (x28_3 : Bool), v28 = .bool x28_3 ∧ Aside0 (impl_CheckFarkas.j0 kq x28_3 a0_0 l0_1 a1_0 l1_1 a2_0 l2_1 = some r) ∧ Aside0 (kq ≤ k) ∧ Aside0 (wc.heap[gb470]? = some (.cells #[.int .i64 a0_0, (.slice A0_1 l0_1.length c0_1)] 33 (0, 0))) ∧ Aside0 (wc.heap[gb471]? = some (.cells #[.int .i64 a1_0, (.slice A1_1 l1_1.length c1_1)] 36 (0, 0))) ∧ Aside0 (wc.heap[gb472]? = some (.cells #[.int .i64 a2_0, (.slice A2_1 l2_1.length c2_1)] 38 (0, 0))) ∧ Aside0 (Below w.heap.size w wc))
 case first =>
  have H := HC4.out
  clear HC4
  replace H := Option.bind_eq_some_iff.mp H
  obtain ⟨t473, A80, H⟩ := H
  replace H : (if t473 = true then ((impl_IsValidLin.f k a1_0 l1_1 a0_0).bind fun t474 => (if t474 = true then ((impl_within.f a2_0 0 1000000000).bind fun t475 => (impl_CheckFarkas.j0 k (!t475) a0_0 l0_1 a1_0 l1_1 a2_0 l2_1)) else (impl_CheckFarkas.j0 k true a0_0 l0_1 a1_0 l1_1 a2_0 l2_1))) else (impl_CheckFarkas.j0 k true a0_0 l0_1 a1_0 l1_1 a2_0 l2_1)) = some r := H
  have A8 := Aside0.mk A80
  clear A80
  by_cases c9 : t473 = true
  ·subst c9
   have H1 : ((impl_IsValidLin.f k a1_0 l1_1 a0_0).bind fun t474 => (if t474 = true then ((impl_within.f a2_0 0 1000000000).bind fun t475 => (impl_CheckFarkas.j0 k (!t475) a0_0 l0_1 a1_0 l1_1 a2_0 l2_1)) else (impl_CheckFarkas.j0 k true a0_0 l0_1 a1_0 l1_1 a2_0 l2_1))) = some r := by rw [if_pos rfl] at H; exact H
   clear H
   have H := H1
   clear H1
   replace H := Option.bind_eq_some_iff.mp H
   obtain ⟨t474, A100, H⟩ := H
   replace H : (if t474 = true then ((impl_within.f a2_0 0 1000000000).bind fun t475 => (impl_CheckFarkas.j0 k (!t475) a0_0 l0_1 a1_0 l1_1 a2_0 l2_1)) else (impl_CheckFarkas.j0 k true a0_0 l0_1 a1_0 l1_1 a2_0 l2_1)) = some r := H
   have A10 := Aside0.mk A100
   clear A100
   by_cases c11 : t474 = true
   ·subst c11
    have H1 : ((impl_within.f a2_0 0 1000000000).bind fun t475 => (impl_CheckFarkas.j0 k (!t475) a0_0 l0_1 a1_0 l1_1 a2_0 l2_1)) = some r := by rw [if_pos rfl] at H; exact H
    clear H
    have H := H1
    clear H1
    replace H := Option.bind_eq_some_iff.mp H
    obtain ⟨t475, A120, H⟩ := H
    replace H : (impl_CheckFarkas.j0 k (!t475) a0_0 l0_1 a1_0 l1_1 a2_0 l2_1) = some r := H
    have A12 := Aside0.mk A120
    clear A120
    have H' := Aside0.mk H
    clear H
    have := NB470_471.out
    have := NB471_470.out
    have := NB470_472.out
    have := NB472_470.out
    obtain ⟨hcz15_0, hcz15_1, hfz15_0, hfz15_1⟩ := cFour BK470
    go_wp2_with (first | ((with_reducible refine gate_callee (f := 62) rfl ?_); refine gl (some 14) rfl rfl Try.func62 (by kernel_rfl) rfl #[.agg #[.int .i64 a0_0, .slice A0_1 l0_1.length c0_1]] rfl ?_; (with_reducible refine (impl_IsValidSystem.calls k a0_0 _ _ l0_1 true _ ?side1 ?side2 A8.out).mono ?_); (case side1 => exact mc ((Kd.C_below HR0_1.out HB.out))); (case side2 => exact HC0_1.out); rintro e w16 ⟨rfl, hb⟩; refine ⟨_, rfl, ?_⟩; replace BK470 := bb BK470 hb; replace BK471 := bb BK471 hb; replace BK472 := bb BK472 hb; replace HB := bs HB hb; (try clear hb); have := NB471_472.out; have := NB472_471.out; obtain ⟨hcz18_0, hcz18_1, hfz18_0, hfz18_1⟩ := cFour BK471; obtain ⟨hcz19_0, hcz19_1, hfz19_0, hfz19_1⟩ := cFour BK470) | (go_at_call 63; (with_reducible refine (impl_IsValidLin.calls k a1_0 _ _ l1_1 a0_0 true _ ?side1 ?side2 A10.out).mono ?_); (case side1 => exact mc ((Kd.C_below HR1_1.out HB.out))); (case side2 => exact HC1_1.out); rintro e w20 ⟨rfl, hb⟩; replace BK470 := bb BK470 hb; replace BK471 := bb BK471 hb; replace BK472 := bb BK472 hb; replace HB := bs HB hb; (try clear hb); obtain ⟨hcz21_0, hcz21_1, hfz21_0, hfz21_1⟩ := cFour BK472) | (go_at_call 50; (with_reducible refine (impl_within.calls a2_0 0 1000000000 t475 _ A12.out).mono ?_); rintro e w' ⟨rfl, ⟨nd, rfl⟩⟩))
    go_meet
    case rel => exact ⟨_, (!t475), (by first | rfl | (simp; done) | (simp [*]; done)), H', ⟨by first | omega | exact Nat.le_refl _⟩, ⟨mb BK470⟩, ⟨mb BK471⟩, ⟨mb BK472⟩, ⟨ms HB⟩⟩
   replace c11 := Bool.eq_false_iff.mpr c11
   subst c11
   have H1 : (impl_CheckFarkas.j0 k true a0_0 l0_1 a1_0 l1_1 a2_0 l2_1) = some r := by rw [if_neg (show ¬ (false = true) by decide)] at H; exact H
   clear H
   have H := H1
   clear H1
   have H' := Aside0.mk H
   clear H
   have := NB470_471.out
   have := NB471_470.out
   have := NB470_472.out
   have := NB472_470.out
   obtain ⟨hcz24_0, hcz24_1, hfz24_0, hfz24_1⟩ := cFour BK470
   go_wp2_with (first | ((with_reducible refine gate_callee (f := 62) rfl ?_); refine gl (some 14) rfl rfl Try.func62 (by kernel_rfl) rfl #[.agg #[.int .i64 a0_0, .slice A0_1 l0_1.length c0_1]] rfl ?_; (with_reducible refine (impl_IsValidSystem.calls k a0_0 _ _ l0_1 true _ ?side1 ?side2 A8.out).mono ?_); (case side1 => exact mc ((Kd.C_below HR0_1.out HB.out))); (case side2 => exact HC0_1.out); rintro e w25 ⟨rfl, hb⟩; refine ⟨_, rfl, ?_⟩; replace BK470 := bb BK470 hb; replace BK471 := bb BK471 hb; replace BK472 := bb BK472 hb; replace HB := bs HB hb; (try clear hb); have := NB471_472.out; have := NB472_471.out; obtain ⟨hcz27_0, hcz27_1, hfz27_0, hfz27_1⟩ := cFour BK471; obtain ⟨hcz28_0, hcz28_1, hfz28_0, hfz28_1⟩ := cFour BK470) | (go_at_call 63; (with_reducible refine (impl_IsValidLin.calls k a1_0 _ _ l1_1 a0_0 false _ ?side1 ?side2 A10.out).mono ?_); (case side1 => exact mc ((Kd.C_below HR1_1.out HB.out))); (case side2 => exact HC1_1.out); rintro e w29 ⟨rfl, hb⟩; replace BK470 := bb BK470 hb; replace BK471 := bb BK471 hb; replace BK472 := bb BK472 hb; replace HB := bs HB hb; (try clear hb)))
   go_meet
   case rel => exact ⟨_, (true), (by first | rfl | (simp; done) | (simp [*]; done)), H', ⟨by first | omega | exact Nat.le_refl _⟩, ⟨mb BK470⟩, ⟨mb BK471⟩, ⟨mb BK472⟩, ⟨ms HB⟩⟩
  replace c9 := Bool.eq_false_iff.mpr c9
  subst c9
  have H1 : (impl_CheckFarkas.j0 k true a0_0 l0_1 a1_0 l1_1 a2_0 l2_1) = some r := by rw [if_neg (show ¬ (false = true) by decide)] at H; exact H
  clear H
  have H := H1
  clear H1
  have H' := Aside0.mk H
  clear H
  have := NB470_471.out
  have := NB471_470.out
  have := NB470_472.out
  have := NB472_470.out
  obtain ⟨hcz32_0, hcz32_1, hfz32_0, hfz32_1⟩ := cFour BK470
  go_wp2_with (first | ((with_reducible refine gate_callee (f := 62) rfl ?_); refine gl (some 14) rfl rfl Try.func62 (by kernel_rfl) rfl #[.agg #[.int .i64 a0_0, .slice A0_1 l0_1.length c0_1]] rfl ?_; (with_reducible refine (impl_IsValidSystem.calls k a0_0 _ _ l0_1 false _ ?side1 ?side2 A8.out).mono ?_); (case side1 => exact mc ((Kd.C_below HR0_1.out HB.out))); (case side2 => exact HC0_1.out); rintro e w33 ⟨rfl, hb⟩; refine ⟨_, rfl, ?_⟩; replace BK470 := bb BK470 hb; replace BK471 := bb BK471 hb; replace BK472 := bb BK472 hb; replace HB := bs HB hb; (try clear hb)))
  go_meet
  case rel => exact ⟨_, (true), (by first | rfl | (simp; done) | (simp [*]; done)), H', ⟨by first | omega | exact Nat.le_refl _⟩, ⟨mb BK470⟩, ⟨mb BK471⟩, ⟨mb BK472⟩, ⟨ms HB⟩⟩
 case rest =>
  clear HC4
  try clear c1
  try clear c2
  try clear p2
  try clear c3
  try clear c6
  try clear c9
  try clear c11
  try clear c13
  try clear c14
  try clear c17
  try clear c22
  try clear c23
  try clear c26
  try clear c27
  try clear c30
  try clear c31
  try clear hcz15_0
  try clear hcz15_1
  try clear hcz18_0
  try clear hcz18_1
  try clear hcz19_0
  try clear hcz19_1
  try clear hcz21_0
  try clear hcz21_1
  try clear hcz24_0
  try clear hcz24_1
  try clear hcz27_0
  try clear hcz27_1
  try clear hcz28_0
  try clear hcz28_1
  try clear hcz32_0
  try clear hcz32_1
  try clear hfz15_0
  try clear hfz15_1
  try clear hfz18_0
  try clear hfz18_1
  try clear hfz19_0
  try clear hfz19_1
  try clear hfz21_0
  try clear hfz21_1
  try clear hfz24_0
  try clear hfz24_1
  try clear hfz27_0
  try clear hfz27_1
  try clear hfz28_0
  try clear hfz28_1
  try clear hfz32_0
  try clear hfz32_1
  obtain ⟨kq, x28_3, rfl, HA, HJ3, BK470, BK471, BK472, HB⟩ := hcut
  cases kq with
  | zero => exact absurd HA.out (by simp [impl_CheckFarkas.j0])
  | succ kj3 =>
   have H := HA.out
   clear HA
   simp only [impl_CheckFarkas.j0] at H
   by_cases c34 : x28_3 = true
   ·subst c34
    have H1 : (some false) = some r := by rw [if_pos rfl] at H; exact H
    clear H
    have H := H1
    clear H1
    obtain rfl := Option.some.inj H
    go_wp2
    go_ret
    exact ⟨by first | rfl | (simp [errW_none, errW_some] <;> rfl) | (simp [*, errW_none, errW_some] <;> rfl), ms HB⟩
   replace c34 := Bool.eq_false_iff.mpr c34
   subst c34
   have H1 : ((impl_CombineRows.f kj3 a0_0 l0_1 l2_1).bind fun bt476 => ((impl_plus.f kj3 a1_0 l1_1 1).bind fun bt482 => (if bt476.2.2 = true then (impl_CheckFarkas.j1 kj3 (!bt482.2.2) a2_0 l2_1 bt476.1 bt476.2.1 bt482.1 bt482.2.1) else (impl_CheckFarkas.j1 kj3 true a2_0 l2_1 bt476.1 bt476.2.1 bt482.1 bt482.2.1)))) = some r := by rw [if_neg (show ¬ (false = true) by decide)] at H; exact H
   clear H
   have H := H1
   clear H1
   replace H := Option.bind_eq_some_iff.mp H
   obtain ⟨⟨t476, t477, t480⟩, A350, H⟩ := H
   replace H : ((impl_plus.f kj3 a1_0 l1_1 1).bind fun bt482 => (if t480 = true then (impl_CheckFarkas.j1 kj3 (!bt482.2.2) a2_0 l2_1 t476 t477 bt482.1 bt482.2.1) else (impl_CheckFarkas.j1 kj3 true a2_0 l2_1 t476 t477 bt482.1 bt482.2.1))) = some r := H
   have A35 := Aside0.mk A350
   clear A350
   replace H := Option.bind_eq_some_iff.mp H
   obtain ⟨⟨t482, t483, t486⟩, A360, H⟩ := H
   replace H : (if t480 = true then (impl_CheckFarkas.j1 kj3 (!t486) a2_0 l2_1 t476 t477 t482 t483) else (impl_CheckFarkas.j1 kj3 true a2_0 l2_1 t476 t477 t482 t483)) = some r := H
   have A36 := Aside0.mk A360
   clear A360
   have HC37 := Aside0.mk H
   clear H
   have := NB470_471.out
   have := NB471_470.out
   have := NB470_472.out
   have := NB472_470.out
   obtain ⟨hcz40_0, hcz40_1, hfz40_0, hfz40_1⟩ := cFour BK470
   have := NB472_471.out
   have := NB471_472.out
   obtain ⟨hcz42_0, hcz42_1, hfz42_0, hfz42_1⟩ := cFour BK472
   go_upto_region 5 with (first | ((with_reducible refine gate_callee (f := 64) rfl ?_); refine gl (some 33) rfl rfl Try.func64 (by kernel_rfl) rfl #[.agg #[.int .i64 a0_0, .slice A0_1 l0_1.length c0_1], .slice A2_1 l2_1.length c2_1] rfl ?_; (with_reducible refine (impl_CombineRows.calls kj3 a0_0 _ _ l0_1 _ _ l2_1 t476 t477 t480 _ ?side1 ?side2 ?side3 ?side4 A35.out).mono ?_); (case side1 => exact mc ((Kd.C_below HR0_1.out HB.out))); (case side2 => exact HC0_1.out); (case side3 => exact mc ((Kd.C_below HR2_1.out HB.out))); (case side4 => exact HC2_1.out); rintro e w43 ⟨v478, rfl, ho0, hb⟩; refine ⟨_, rfl, ?_⟩; have HO479 := Aside0.mk (Kd.R_lower ho0 (below_size (ms HB))); replace BK470 := bb BK470 hb; replace BK471 := bb BK471 hb; replace BK472 := bb BK472 hb; replace HB := bs HB hb; (try clear hb); (try clear ho0)) | ((with_reducible refine gate_dst (N := 7) rfl ?_); refine box_event ?hg (N := 7) ?hd (cs := #[.int .i64 0, .slice none 0 0]) (t := 36) ?hr ?_; (case hd => rfl); (case hg => rfl); (case hr => first | (go_simp; done) | (go_simp; rfl)); intro gb481 hg w44 hbox hb; replace HO479 := rb HO479 hb; have BK481 := Aside0.mk (hbox); have GW481 := gw hg HB; have GE481 := gw hg HB; replace HB := bs HB hb; have NB470_481 := nl hg BK470; have NB481_470 := ng hg BK470; replace BK470 := bb BK470 hb; have NB471_481 := nl hg BK471; have NB481_471 := ng hg BK471; replace BK471 := bb BK471 hb; have NB472_481 := nl hg BK472; have NB481_472 := ng hg BK472; replace BK472 := bb BK472 hb; clear hb hbox hg; have := NB481_470.out; have := NB470_481.out; have := NB481_471.out; have := NB471_481.out; have := NB481_472.out; have := NB472_481.out; obtain ⟨hcz48_0, hcz48_1, hfz48_0, hfz48_1⟩ := cFour BK481; obtain ⟨Ao49, co49, eo49⟩ := Kd.R_slice HO479.out; subst eo49; obtain ⟨hcz50_0, hcz50_1, hfz50_0, hfz50_1⟩ := cFour BK471) | ((with_reducible refine gate_callee (f := 65) rfl ?_); refine gl (some 38) rfl rfl Try.func65 (by kernel_rfl) rfl #[.agg #[.int .i64 a1_0, .slice A1_1 l1_1.length c1_1], .int .i64 1] rfl ?_; (with_reducible refine (impl_plus.calls kj3 a1_0 _ _ l1_1 1 t482 t483 t486 _ ?side1 ?side2 A36.out).mono ?_); (case side1 => exact Kd.C_below HR1_1.out (ms HB)); (case side2 => exact HC1_1.out); rintro e w51 ⟨v484, rfl, ho0, hb⟩; refine ⟨_, rfl, ?_⟩; have n0_ := Aside0.mk (Kd.R_elder' (by (with_reducible repeat (first | apply Kd.R_alloc | apply Kd.R_drewN | apply Kd.R_drew)); exact (rTwo HO479 BK481)) (Kd.R_base ho0) hb); have n1_ := Aside0.mk (Kd.R_lower (Kd.R_new' ho0 (Kd.R_lt (by (with_reducible repeat (first | apply Kd.R_alloc | apply Kd.R_drewN | apply Kd.R_drew)); exact (rTwo HO479 BK481)))) (below_size (ms HB))); have n2_ := bf BK470 hb; have n3_ := bf BK471 hb; have n4_ := bf BK472 hb; have n5_ := bp BK481 hb; have n6_ := bs HB hb; clear HO479 BK470 BK471 BK472 BK481 HB; have HO479 := n0_; have HO485 := n1_; have BK470 := n2_; have BK471 := n3_; have BK472 := n4_; have BK481 := n5_; have HB := n6_; clear n0_ n1_ n2_ n3_ n4_ n5_ n6_; (try clear hb); (try clear ho0)) | ((with_reducible refine gate_dst (N := 9) rfl ?_); refine box_event ?hg (N := 9) ?hd (cs := #[.int .i64 0, .slice none 0 0]) (t := 36) ?hr ?_; (case hd => rfl); (case hg => rfl); (case hr => first | (go_simp; done) | (go_simp; rfl)); intro gb487 hg w52 hbox hb; replace HO479 := rb HO479 hb; replace HO485 := rb HO485 hb; have BK487 := Aside0.mk (hbox); have GW487 := gw hg HB; have GE487 := gw hg HB; replace HB := bs HB hb; have NB470_487 := nl hg BK470; have NB487_470 := ng hg BK470; replace BK470 := bb BK470 hb; have NB471_487 := nl hg BK471; have NB487_471 := ng hg BK471; replace BK471 := bb BK471 hb; have NB472_487 := nl hg BK472; have NB487_472 := ng hg BK472; replace BK472 := bb BK472 hb; have NB481_487 := nl hg BK481; have NB487_481 := ng hg BK481; replace BK481 := bb BK481 hb; clear hb hbox hg; have := NB487_470.out; have := NB470_487.out; have := NB487_471.out; have := NB471_487.out; have := NB487_472.out; have := NB472_487.out; have := NB487_481.out; have := NB481_487.out; obtain ⟨hcz57_0, hcz57_1, hfz57_0, hfz57_1⟩ := cFour BK487; obtain ⟨Ao58, co58, eo58⟩ := Kd.R_slice HO485.out; subst eo58))
   (try simp only [Act.put, List.setIfInBounds_toArray, List.set_cons_zero, List.set_cons_succ])
   go_cut [46] (fun v46 wc => ∃ (kq : Nat) (x46_36 : Bool), v46 = .bool x46_36 ∧ Aside0 (impl_CheckFarkas.j1 kq x46_36 a2_0 l2_1 t476 t477 t482 t483 = some r) ∧ Aside0 (kq ≤ kj3) ∧ Aside0 (Kd.R (Kd.int .i64) 3 wc w.heap.size (fun k_ => some k_ ≠ ((.slice Ao58 t483.length co58) : Value).ownBlock) (.slice Ao49 t477.length co49) t477) ∧ Aside0 (Kd.R (Kd.int .i64) 3 wc w.heap.size (fun k_ => some k_ ≠ ((.slice Ao49 t477.length co49) : Value).ownBlock) (.slice Ao58 t483.length co58) t483) ∧ Aside0 (wc.heap[gb470]? = some (.cells #[.int .i64 a0_0, (.slice A0_1 l0_1.length c0_1)] 33 (0, 0))) ∧ Aside0 (wc.heap[gb471]? = some (.cells #[.int .i64 a1_0, (.slice A1_1 l1_1.length c1_1)] 36 (0, 0))) ∧ Aside0 (wc.heap[gb472]? = some (.cells #[.int .i64 a2_0, (.slice A2_1 l2_1.length c2_1)] 38 (0, 0))) ∧ Aside0 (wc.heap[gb481]? = some (.cells #[.int .i64 t476, (.slice Ao49 t477.length co49)] 36 (0, 0))) ∧ Aside0 (wc.heap[gb487]? = some (.cells #[.int .i64 t482, (.slice Ao58 t483.length co58)] 36 (0, 0))) ∧ Aside0 (Below w.heap.size w wc))
   case first =>
    have H := HC37.out
    clear HC37
    by_cases c59 : t480 = true
    ·subst c59
     have H1 : (impl_CheckFarkas.j1 kj3 (!t486) a2_0 l2_1 t476 t477 t482 t483) = some r := by rw [if_pos rfl] at H; exact H
     clear H
     have H := H1
     clear H1
     have H' := Aside0.mk H
     clear H
     go_wp2
     go_meet
     case rel => exact ⟨_, (!t486), (by first | rfl | (simp; done) | (simp [*]; done)), H', ⟨by have := HJ3.out; first | omega | exact Nat.le_refl _⟩, ⟨by (with_reducible repeat (first | apply Kd.R_alloc | apply Kd.R_drewN | apply Kd.R_drew)); exact Kd.R_mono (Kd.R_far (p := ⟨gb487, 1, none⟩) (Kd.R_far (p := ⟨gb487, 0, none⟩) (Kd.R_types HO479.out BK487.out (by decide)) (fun _ hk => hk.2) (.int .i64 t482)) (fun _ hk => hk.2) (.slice Ao58 t483.length co58)) (fun _ hk => hk.1.2)⟩, ⟨by (with_reducible repeat (first | apply Kd.R_alloc | apply Kd.R_drewN | apply Kd.R_drew)); exact Kd.R_mono (Kd.R_far (p := ⟨gb487, 1, none⟩) (Kd.R_far (p := ⟨gb487, 0, none⟩) (Kd.R_types HO485.out BK487.out (by decide)) (fun _ hk => hk.2) (.int .i64 t482)) (fun _ hk => hk.2) (.slice Ao58 t483.length co58)) (fun _ hk => hk.1.2)⟩, ⟨mf BK470⟩, ⟨mf BK471⟩, ⟨mf BK472⟩, ⟨mf BK481⟩, ⟨mq BK487⟩, ⟨ms HB⟩⟩
    replace c59 := Bool.eq_false_iff.mpr c59
    subst c59
    have H1 : (impl_CheckFarkas.j1 kj3 true a2_0 l2_1 t476 t477 t482 t483) = some r := by rw [if_neg (show ¬ (false = true) by decide)] at H; exact H
    clear H
    have H := H1
    clear H1
    have H' := Aside0.mk H
    clear H
    go_wp2
    go_meet
    case rel => exact ⟨_, (true), (by first | rfl | (simp; done) | (simp [*]; done)), H', ⟨by have := HJ3.out; first | omega | exact Nat.le_refl _⟩, ⟨by (with_reducible repeat (first | apply Kd.R_alloc | apply Kd.R_drewN | apply Kd.R_drew)); exact Kd.R_mono (Kd.R_far (p := ⟨gb487, 1, none⟩) (Kd.R_far (p := ⟨gb487, 0, none⟩) (Kd.R_types HO479.out BK487.out (by decide)) (fun _ hk => hk.2) (.int .i64 t482)) (fun _ hk => hk.2) (.slice Ao58 t483.length co58)) (fun _ hk => hk.1.2)⟩, ⟨by (with_reducible repeat (first | apply Kd.R_alloc | apply Kd.R_drewN | apply Kd.R_drew)); exact Kd.R_mono (Kd.R_far (p := ⟨gb487, 1, none⟩) (Kd.R_far (p := ⟨gb487, 0, none⟩) (Kd.R_types HO485.out BK487.out (by decide)) (fun _ hk => hk.2) (.int .i64 t482)) (fun _ hk => hk.2) (.slice Ao58 t483.length co58)) (fun _ hk => hk.1.2)⟩, ⟨mf BK470⟩, ⟨mf BK471⟩, ⟨mf BK472⟩, ⟨mf BK481⟩, ⟨mq BK487⟩, ⟨ms HB⟩⟩
   case rest =>
    clear HC37
    try clear c1
    try clear c2
    try clear p2
    try clear c3
    try clear c4
    try clear c5
    try clear c6
    try clear c9
    try clear c11
    try clear c13
    try clear c14
    try clear c17
    try clear c22
    try clear c23
    try clear c26
    try clear c27
    try clear c30
    try clear c31
    try clear c34
    try clear c38
    try clear c39
    try clear c41
    try clear c45
    try clear c46
    try clear c47
    try clear c53
    try clear c54
    try clear c55
    try clear c56
    try clear c59
    try clear hcz15_0
    try clear hcz15_1
    try clear hcz18_0
    try clear hcz18_1
    try clear hcz19_0
    try clear hcz19_1
    try clear hcz21_0
    try clear hcz21_1
    try clear hcz24_0
    try clear hcz24_1
    try clear hcz27_0
    try clear hcz27_1
    try clear hcz28_0
    try clear hcz28_1
    try clear hcz32_0
    try clear hcz32_1
    try clear hcz40_0
    try clear hcz40_1
    try clear hcz42_0
    try clear hcz42_1
    try clear hcz48_0
    try clear hcz48_1
    try clear hcz50_0
    try clear hcz50_1
    try clear hcz57_0
    try clear hcz57_1
    try clear hfz15_0
    try clear hfz15_1
    try clear hfz18_0
    try clear hfz18_1
    try clear hfz19_0
    try clear hfz19_1
    try clear hfz21_0
    try clear hfz21_1
    try clear hfz24_0
    try clear hfz24_1
    try clear hfz27_0
    try clear hfz27_1
    try clear hfz28_0
    try clear hfz28_1
    try clear hfz32_0
    try clear hfz32_1
    try clear hfz40_0
    try clear hfz40_1
    try clear hfz42_0
    try clear hfz42_1
    try clear hfz48_0
    try clear hfz48_1
    try clear hfz50_0
    try clear hfz50_1
    try clear hfz57_0
    try clear hfz57_1
    try clear p2
    obtain ⟨kq, x46_36, rfl, HA, HJ36, HO_482001, HO_488001, BK470, BK471, BK472, BK481, BK487, HB⟩ := hcut
    cases kq with
    | zero => exact absurd HA.out (by simp [impl_CheckFarkas.j1])
    | succ kj36 =>
     have H := HA.out
     clear HA
     simp only [impl_CheckFarkas.j1] at H
     by_cases c60 : x46_36 = true
     ·subst c60
      have H1 : (some false) = some r := by rw [if_pos rfl] at H; exact H
      clear H
      have H := H1
      clear H1
      obtain rfl := Option.some.inj H
      go_wp2
      go_ret
      exact ⟨by first | rfl | (simp [errW_none, errW_some] <;> rfl) | (simp [*, errW_none, errW_some] <;> rfl), ms HB⟩
     replace c60 := Bool.eq_false_iff.mpr c60
     subst c60
     have H1 : ((impl_AddScaled.f kj36 t476 t477 (wrap64 (-a2_0)) t482 t483).bind fun bt488 => (if bt488.2.2 = true then ((impl_IsConstant.f kj36 bt488.1 bt488.2.1).bind fun t494 => (if t494 = true then (some (decide (bt488.1 < 0))) else (some false))) else (some false))) = some r := by rw [if_neg (show ¬ (false = true) by decide)] at H; exact H
     clear H
     have H := H1
     clear H1
     replace H := Option.bind_eq_some_iff.mp H
     obtain ⟨⟨t488, t489, t492⟩, A610, H⟩ := H
     replace H : (if t492 = true then ((impl_IsConstant.f kj36 t488 t489).bind fun t494 => (if t494 = true then (some (decide (t488 < 0))) else (some false))) else (some false)) = some r := H
     have A61 := Aside0.mk A610
     clear A610
     by_cases c62 : t492 = true
     ·subst c62
      have H1 : ((impl_IsConstant.f kj36 t488 t489).bind fun t494 => (if t494 = true then (some (decide (t488 < 0))) else (some false))) = some r := by rw [if_pos rfl] at H; exact H
      clear H
      have H := H1
      clear H1
      replace H := Option.bind_eq_some_iff.mp H
      obtain ⟨t494, A630, H⟩ := H
      replace H : (if t494 = true then (some (decide (t488 < 0))) else (some false)) = some r := H
      have A63 := Aside0.mk A630
      clear A630
      by_cases c64 : t494 = true
      ·subst c64
       have H1 : (some (decide (t488 < 0))) = some r := by rw [if_pos rfl] at H; exact H
       clear H
       have H := H1
       clear H1
       obtain rfl := Option.some.inj H
       have := NB481_470.out
       have := NB470_481.out
       have := NB481_471.out
       have := NB471_481.out
       have := NB481_472.out
       have := NB472_481.out
       have := NB481_487.out
       have := NB487_481.out
       obtain ⟨_, _, _, _⟩ := cFour BK481
       have := NB472_470.out
       have := NB470_472.out
       have := NB472_471.out
       have := NB471_472.out
       have := NB472_487.out
       have := NB487_472.out
       obtain ⟨_, _, _, _⟩ := cFour BK472
       have := NB487_470.out
       have := NB470_487.out
       have := NB487_471.out
       have := NB471_487.out
       obtain ⟨_, _, _, _⟩ := cFour BK487
       go_wp2_with (first | ((with_reducible refine gate_callee (f := 66) rfl ?_); refine gl (some 53) rfl rfl Try.func66 (by kernel_rfl) rfl #[.agg #[.int .i64 t476, .slice Ao49 t477.length co49], .int .i64 (wrap64 (-a2_0)), .agg #[.int .i64 t482, .slice Ao58 t483.length co58]] rfl ?_; (with_reducible refine (impl_AddScaled.calls kj36 t476 _ _ t477 (wrap64 (-a2_0)) t482 _ _ t483 t488 t489 true _ ?side1 ?side2 ?side3 ?side4 A61.out).mono ?_); (case side1 => exact mc ((Kd.R_reads' HO_482001.out).2.2)); (case side2 => exact (Kd.R_reads' HO_482001.out).2.1); (case side3 => exact mc ((Kd.R_reads' HO_488001.out).2.2)); (case side4 => exact (Kd.R_reads' HO_488001.out).2.1); rintro e w77 ⟨v490, rfl, ho0, hb⟩; refine ⟨_, rfl, ?_⟩; have HO491 := Aside0.mk (Kd.R_lower (Kd.R_new' (Kd.R_new' ho0 (Kd.R_lt (mr HO_482001))) (Kd.R_lt (mr HO_488001))) (below_size (ms HB))); replace HO_482001 := rl HO_482001 ho0 hb; replace HO_488001 := rl HO_488001 ho0 hb; replace BK470 := bb BK470 hb; replace BK471 := bb BK471 hb; replace BK472 := bb BK472 hb; replace BK481 := bb BK481 hb; replace BK487 := bb BK487 hb; replace HB := bs HB hb; (try clear hb); (try clear ho0)) | ((with_reducible refine gate_dst (N := 11) rfl ?_); refine box_event ?hg (N := 11) ?hd (cs := #[.int .i64 0, .slice none 0 0]) (t := 36) ?hr ?_; (case hd => rfl); (case hg => rfl); (case hr => first | (go_simp; done) | (go_simp; rfl)); intro gb493 hg w78 hbox hb; replace HO_482001 := rb HO_482001 hb; replace HO_488001 := rb HO_488001 hb; replace HO491 := rb HO491 hb; have BK493 := Aside0.mk (hbox); have GW493 := gw hg HB; have GE493 := gw hg HB; replace HB := bs HB hb; have NB470_493 := nl hg BK470; have NB493_470 := ng hg BK470; replace BK470 := bb BK470 hb; have NB471_493 := nl hg BK471; have NB493_471 := ng hg BK471; replace BK471 := bb BK471 hb; have NB472_493 := nl hg BK472; have NB493_472 := ng hg BK472; replace BK472 := bb BK472 hb; have NB481_493 := nl hg BK481; have NB493_481 := ng hg BK481; replace BK481 := bb BK481 hb; have NB487_493 := nl hg BK487; have NB493_487 := ng hg BK487; replace BK487 := bb BK487 hb; clear hb hbox hg; have := NB493_470.out; have := NB470_493.out; have := NB493_471.out; have := NB471_493.out; have := NB493_472.out; have := NB472_493.out; have := NB493_481.out; have := NB481_493.out; have := NB493_487.out; have := NB487_493.out; obtain ⟨_, _, _, _⟩ := cFour BK493; obtain ⟨Ao85, co85, eo85⟩ := Kd.R_slice HO491.out; subst eo85) | (go_at_call 67; (with_reducible refine (impl_IsConstant.calls kj36 t488 _ _ t489 true _ ?side1 ?side2 A63.out).mono ?_); (case side1 => refine (Kd.R_reads' (e := 3) (base := w.heap.size) (ok := fun k_ => ((True ∧ some k_ ≠ (.slice Ao49 t477.length co49 : Value).ownBlock) ∧ some k_ ≠ (.slice Ao58 t483.length co58 : Value).ownBlock)) (n := t489.length) (c := co85) ?_).2.2; exact (by (with_reducible repeat (first | apply Kd.R_alloc | apply Kd.R_drewN | apply Kd.R_drew)); exact (rTwo HO491 BK493))); (case side2 => exact (Kd.R_reads' HO491.out).2.1); rintro e w86 ⟨rfl, hb⟩; have n0_ := Aside0.mk (Kd.R_below (by (with_reducible repeat (first | apply Kd.R_alloc | apply Kd.R_drewN | apply Kd.R_drew)); exact (rTwo HO_482001 BK493)) hb); have n1_ := Aside0.mk (Kd.R_below (by (with_reducible repeat (first | apply Kd.R_alloc | apply Kd.R_drewN | apply Kd.R_drew)); exact (rTwo HO_488001 BK493)) hb); have n2_ := Aside0.mk (Kd.R_below (by (with_reducible repeat (first | apply Kd.R_alloc | apply Kd.R_drewN | apply Kd.R_drew)); exact (rTwo HO491 BK493)) hb); have n3_ := bf BK470 hb; have n4_ := bf BK471 hb; have n5_ := bf BK472 hb; have n6_ := bf BK481 hb; have n7_ := bf BK487 hb; have n8_ := bp BK493 hb; have n9_ := bs HB hb; clear HO_482001 HO_488001 HO491 BK470 BK471 BK472 BK481 BK487 BK493 HB; have HO_482001 := n0_; have HO_488001 := n1_; have HO491 := n2_; have BK470 := n3_; have BK471 := n4_; have BK472 := n5_; have BK481 := n6_; have BK487 := n7_; have BK493 := n8_; have HB := n9_; clear n0_ n1_ n2_ n3_ n4_ n5_ n6_ n7_ n8_ n9_; (try clear hb); obtain ⟨_, _, _, _⟩ := cFour BK493))
       go_ret
       exact ⟨by first | rfl | (simp [errW_none, errW_some] <;> rfl) | (simp [*, errW_none, errW_some] <;> rfl), ms HB⟩
      replace c64 := Bool.eq_false_iff.mpr c64
      subst c64
      have H1 : (some false) = some r := by rw [if_neg (show ¬ (false = true) by decide)] at H; exact H
      clear H
      have H := H1
      clear H1
      obtain rfl := Option.some.inj H
      have := NB481_470.out
      have := NB470_481.out
      have := NB481_471.out
      have := NB471_481.out
      have := NB481_472.out
      have := NB472_481.out
      have := NB481_487.out
      have := NB487_481.out
      obtain ⟨_, _, _, _⟩ := cFour BK481
      have := NB472_470.out
      have := NB470_472.out
      have := NB472_471.out
      have := NB471_472.out
      have := NB472_487.out
      have := NB487_472.out
      obtain ⟨_, _, _, _⟩ := cFour BK472
      have := NB487_470.out
      have := NB470_487.out
      have := NB487_471.out
      have := NB471_487.out
      obtain ⟨_, _, _, _⟩ := cFour BK487
      go_wp2_with (first | ((with_reducible refine gate_callee (f := 66) rfl ?_); refine gl (some 53) rfl rfl Try.func66 (by kernel_rfl) rfl #[.agg #[.int .i64 t476, .slice Ao49 t477.length co49], .int .i64 (wrap64 (-a2_0)), .agg #[.int .i64 t482, .slice Ao58 t483.length co58]] rfl ?_; (with_reducible refine (impl_AddScaled.calls kj36 t476 _ _ t477 (wrap64 (-a2_0)) t482 _ _ t483 t488 t489 true _ ?side1 ?side2 ?side3 ?side4 A61.out).mono ?_); (case side1 => exact mc ((Kd.R_reads' HO_482001.out).2.2)); (case side2 => exact (Kd.R_reads' HO_482001.out).2.1); (case side3 => exact mc ((Kd.R_reads' HO_488001.out).2.2)); (case side4 => exact (Kd.R_reads' HO_488001.out).2.1); rintro e w100 ⟨v490, rfl, ho0, hb⟩; refine ⟨_, rfl, ?_⟩; have HO491 := Aside0.mk (Kd.R_lower (Kd.R_new' (Kd.R_new' ho0 (Kd.R_lt (mr HO_482001))) (Kd.R_lt (mr HO_488001))) (below_size (ms HB))); replace HO_482001 := rl HO_482001 ho0 hb; replace HO_488001 := rl HO_488001 ho0 hb; replace BK470 := bb BK470 hb; replace BK471 := bb BK471 hb; replace BK472 := bb BK472 hb; replace BK481 := bb BK481 hb; replace BK487 := bb BK487 hb; replace HB := bs HB hb; (try clear hb); (try clear ho0)) | ((with_reducible refine gate_dst (N := 11) rfl ?_); refine box_event ?hg (N := 11) ?hd (cs := #[.int .i64 0, .slice none 0 0]) (t := 36) ?hr ?_; (case hd => rfl); (case hg => rfl); (case hr => first | (go_simp; done) | (go_simp; rfl)); intro gb493 hg w101 hbox hb; replace HO_482001 := rb HO_482001 hb; replace HO_488001 := rb HO_488001 hb; replace HO491 := rb HO491 hb; have BK493 := Aside0.mk (hbox); have GW493 := gw hg HB; have GE493 := gw hg HB; replace HB := bs HB hb; have NB470_493 := nl hg BK470; have NB493_470 := ng hg BK470; replace BK470 := bb BK470 hb; have NB471_493 := nl hg BK471; have NB493_471 := ng hg BK471; replace BK471 := bb BK471 hb; have NB472_493 := nl hg BK472; have NB493_472 := ng hg BK472; replace BK472 := bb BK472 hb; have NB481_493 := nl hg BK481; have NB493_481 := ng hg BK481; replace BK481 := bb BK481 hb; have NB487_493 := nl hg BK487; have NB493_487 := ng hg BK487; replace BK487 := bb BK487 hb; clear hb hbox hg; have := NB493_470.out; have := NB470_493.out; have := NB493_471.out; have := NB471_493.out; have := NB493_472.out; have := NB472_493.out; have := NB493_481.out; have := NB481_493.out; have := NB493_487.out; have := NB487_493.out; obtain ⟨_, _, _, _⟩ := cFour BK493; obtain ⟨Ao108, co108, eo108⟩ := Kd.R_slice HO491.out; subst eo108) | (go_at_call 67; (with_reducible refine (impl_IsConstant.calls kj36 t488 _ _ t489 false _ ?side1 ?side2 A63.out).mono ?_); (case side1 => refine (Kd.R_reads' (e := 3) (base := w.heap.size) (ok := fun k_ => ((True ∧ some k_ ≠ (.slice Ao49 t477.length co49 : Value).ownBlock) ∧ some k_ ≠ (.slice Ao58 t483.length co58 : Value).ownBlock)) (n := t489.length) (c := co108) ?_).2.2; exact (by (with_reducible repeat (first | apply Kd.R_alloc | apply Kd.R_drewN | apply Kd.R_drew)); exact (rTwo HO491 BK493))); (case side2 => exact (Kd.R_reads' HO491.out).2.1); rintro e w109 ⟨rfl, hb⟩; have n0_ := Aside0.mk (Kd.R_below (by (with_reducible repeat (first | apply Kd.R_alloc | apply Kd.R_drewN | apply Kd.R_drew)); exact (rTwo HO_482001 BK493)) hb); have n1_ := Aside0.mk (Kd.R_below (by (with_reducible repeat (first | apply Kd.R_alloc | apply Kd.R_drewN | apply Kd.R_drew)); exact (rTwo HO_488001 BK493)) hb); have n2_ := Aside0.mk (Kd.R_below (by (with_reducible repeat (first | apply Kd.R_alloc | apply Kd.R_drewN | apply Kd.R_drew)); exact (rTwo HO491 BK493)) hb); have n3_ := bf BK470 hb; have n4_ := bf BK471 hb; have n5_ := bf BK472 hb; have n6_ := bf BK481 hb; have n7_ := bf BK487 hb; have n8_ := bp BK493 hb; have n9_ := bs HB hb; clear HO_482001 HO_488001 HO491 BK470 BK471 BK472 BK481 BK487 BK493 HB; have HO_482001 := n0_; have HO_488001 := n1_; have HO491 := n2_; have BK470 := n3_; have BK471 := n4_; have BK472 := n5_; have BK481 := n6_; have BK487 := n7_; have BK493 := n8_; have HB := n9_; clear n0_ n1_ n2_ n3_ n4_ n5_ n6_ n7_ n8_ n9_; (try clear hb)))
      go_ret
      exact ⟨by first | rfl | (simp [errW_none, errW_some] <;> rfl) | (simp [*, errW_none, errW_some] <;> rfl), ms HB⟩
     replace c62 := Bool.eq_false_iff.mpr c62
     subst c62
     have H1 : (some false) = some r := by rw [if_neg (show ¬ (false = true) by decide)] at H; exact H
     clear H
     have H := H1
     clear H1
     obtain rfl := Option.some.inj H
     have := NB481_470.out
     have := NB470_481.out
     have := NB481_471.out
     have := NB471_481.out
     have := NB481_472.out
     have := NB472_481.out
     have := NB481_487.out
     have := NB487_481.out
     obtain ⟨_, _, _, _⟩ := cFour BK481
     have := NB472_470.out
     have := NB470_472.out
     have := NB472_471.out
     have := NB471_472.out
     have := NB472_487.out
     have := NB487_472.out
     obtain ⟨_, _, _, _⟩ := cFour BK472
     have := NB487_470.out
     have := NB470_487.out
     have := NB487_471.out
     have := NB471_487.out
     obtain ⟨_, _, _, _⟩ := cFour BK487
     go_wp2_with (first | ((with_reducible refine gate_callee (f := 66) rfl ?_); refine gl (some 53) rfl rfl Try.func66 (by kernel_rfl) rfl #[.agg #[.int .i64 t476, .slice Ao49 t477.length co49], .int .i64 (wrap64 (-a2_0)), .agg #[.int .i64 t482, .slice Ao58 t483.length co58]] rfl ?_; (with_reducible refine (impl_AddScaled.calls kj36 t476 _ _ t477 (wrap64 (-a2_0)) t482 _ _ t483 t488 t489 false _ ?side1 ?side2 ?side3 ?side4 A61.out).mono ?_); (case side1 => exact mc ((Kd.R_reads' HO_482001.out).2.2)); (case side2 => exact (Kd.R_reads' HO_482001.out).2.1); (case side3 => exact mc ((Kd.R_reads' HO_488001.out).2.2)); (case side4 => exact (Kd.R_reads' HO_488001.out).2.1); rintro e w122 ⟨v490, rfl, ho0, hb⟩; refine ⟨_, rfl, ?_⟩; have HO491 := Aside0.mk (Kd.R_lower (Kd.R_new' (Kd.R_new' ho0 (Kd.R_lt (mr HO_482001))) (Kd.R_lt (mr HO_488001))) (below_size (ms HB))); replace HO_482001 := rl HO_482001 ho0 hb; replace HO_488001 := rl HO_488001 ho0 hb; replace BK470 := bb BK470 hb; replace BK471 := bb BK471 hb; replace BK472 := bb BK472 hb; replace BK481 := bb BK481 hb; replace BK487 := bb BK487 hb; replace HB := bs HB hb; (try clear hb); (try clear ho0)) | ((with_reducible refine gate_dst (N := 11) rfl ?_); refine box_event ?hg (N := 11) ?hd (cs := #[.int .i64 0, .slice none 0 0]) (t := 36) ?hr ?_; (case hd => rfl); (case hg => rfl); (case hr => first | (go_simp; done) | (go_simp; rfl)); intro gb493 hg w123 hbox hb; replace HO_482001 := rb HO_482001 hb; replace HO_488001 := rb HO_488001 hb; replace HO491 := rb HO491 hb; have BK493 := Aside0.mk (hbox); have GW493 := gw hg HB; have GE493 := gw hg HB; replace HB := bs HB hb; have NB470_493 := nl hg BK470; have NB493_470 := ng hg BK470; replace BK470 := bb BK470 hb; have NB471_493 := nl hg BK471; have NB493_471 := ng hg BK471; replace BK471 := bb BK471 hb; have NB472_493 := nl hg BK472; have NB493_472 := ng hg BK472; replace BK472 := bb BK472 hb; have NB481_493 := nl hg BK481; have NB493_481 := ng hg BK481; replace BK481 := bb BK481 hb; have NB487_493 := nl hg BK487; have NB493_487 := ng hg BK487; replace BK487 := bb BK487 hb; clear hb hbox hg; have := NB493_470.out; have := NB470_493.out; have := NB493_471.out; have := NB471_493.out; have := NB493_472.out; have := NB472_493.out; have := NB493_481.out; have := NB481_493.out; have := NB493_487.out; have := NB487_493.out; obtain ⟨_, _, _, _⟩ := cFour BK493; obtain ⟨Ao130, co130, eo130⟩ := Kd.R_slice HO491.out; subst eo130))
     go_ret
     exact ⟨by first | rfl | (simp [errW_none, errW_some] <;> rfl) | (simp [*, errW_none, errW_some] <;> rfl), ms HB⟩

/-! ### spec_IsConstant: function 70 -/
def spec_IsConstant.l0 : Nat → Int → Int → List Int → Option (Bool)
 | 0, _, _, _ => none
 | k + 1, x3, x496000, x496001 => if x3 < (x496001.length : Int) then (if 0 ≤ x3 then (if (rd x496001 x3) = 0 then (spec_IsConstant.l0 k (wrap64 (x3 + 1)) x496000 x496001) else (some false)) else (none)) else (some true)
def spec_IsConstant.f (k : Nat) (a0_0 : Int) (l0_1 : List Int) : Option (Bool) := spec_IsConstant.l0 k 0 a0_0 l0_1
theorem spec_IsConstant.mono_l : ∀ k, (∀ y0 y1 y2, LeO (spec_IsConstant.l0 k y0 y1 y2) (spec_IsConstant.l0 (k + 1) y0 y1 y2))
 | 0 => fun _ _ _ r h => by simp [spec_IsConstant.l0] at h
 | k + 1 => by
  have ih0 := spec_IsConstant.mono_l k
  ·intro y0 y1 y2
   unfold spec_IsConstant.l0
   repeat' with_reducible first
   | exact ih0 _ _ _
   | exact LeO.refl _
   | exact LeO.none _
   | refine LeO.ite ?_ ?_
   | refine LeO.bind ?_ (fun _ => ?_)
theorem spec_IsConstant.mono : ∀ a0 a1 k, LeO (spec_IsConstant.f k a0 a1) (spec_IsConstant.f (k + 1) a0 a1) := by
 intro a0 a1 k
 have ih0 := spec_IsConstant.mono_l k
 unfold spec_IsConstant.f
 repeat' with_reducible first
 | exact ih0 _ _ _
 | exact LeO.refl _
 | exact LeO.none _
 | refine LeO.ite ?_ ?_
 | refine LeO.bind ?_ (fun _ => ?_)
set_option maxHeartbeats 8000000 in
set_option maxRecDepth 100000 in
theorem spec_IsConstant.calls (k : Nat) (a0_0 : Int) (A0_1 : Option Addr) (c0_1 : Nat) (l0_1 : List Int) (r : Bool) (w : World) (hr0_1 : Kd.C (Kd.int .i64) w A0_1 l0_1.length l0_1) (hc0_1 : l0_1.length ≤ c0_1) (h : spec_IsConstant.f k a0_0 l0_1 = some r) :
  Calls Try.prog 70 #[.agg #[.int .i64 a0_0, .slice A0_1 l0_1.length c0_1]] w fun e w' => e = .returned (.bool r) ∧ Below w.heap.size w w' := by
 have hu36 := Try.underlying36
 have HR0_1 := Aside0.mk hr0_1
 have HC0_1 := Aside0.mk hc0_1
 clear hr0_1 hc0_1
 have HB := Aside0.mk (Below.refl w.heap.size w)
 have H : (spec_IsConstant.l0 k 0 a0_0 l0_1) = some r := h
 clear h
 have H' := Aside0.mk H
 clear H
 go_enter Try.func70, Try.ntmps70
 go_wp2_with (first | ((with_reducible refine gate_dst (N := 1) rfl ?_); refine box_event ?hg (N := 1) ?hd (cs := #[.int .i64 a0_0, .slice A0_1 l0_1.length c0_1]) (t := 36) ?hr ?_; (case hd => rfl); (case hg => rfl); (case hr => first | (go_simp; done) | (go_simp; rfl)); intro gb495 hg w2 hbox hb; have BK495 := Aside0.mk (hbox); have GW495 := gw hg HB; have GE495 := gw hg HB; replace HB := bs HB hb; clear hb hbox hg))
 go_loopg [3] k (fun kq v3 w' => ∃ (x3_1 : Int), v3 = .int .i64 x3_1 ∧ Aside0 (spec_IsConstant.l0 kq x3_1 a0_0 l0_1 = some r) ∧ Aside0 (kq ≤ k) ∧ Aside0 (w'.heap[gb495]? = some (.cells #[.int .i64 a0_0, (.slice A0_1 l0_1.length c0_1)] 36 (0, 0))) ∧ Aside0 (Below w.heap.size w w'))
 case atStart => exact ⟨(0), (by first | rfl | (simp; done) | (simp [*]; done)), H', ⟨Nat.le_refl _⟩, ⟨mb BK495⟩, ⟨ms HB⟩⟩
 case round =>
  clear H'
  try clear p2
  obtain ⟨x3_1, rfl, HA, HK1, BK495, HB⟩ := hrel
  cases gk with
  | zero => exact absurd HA.out (by simp [spec_IsConstant.l0])
  | succ k1 =>
   have H := HA.out
   clear HA
   simp only [spec_IsConstant.l0] at H
   by_cases c3 : x3_1 < (l0_1.length : Int)
   ·rw [if_pos c3] at H
    have c3b0 : decide (x3_1 < (l0_1.length : Int)) = true := decide_eq_true c3
    clear c3
    by_cases c4 : 0 ≤ x3_1
    ·rw [if_pos c4] at H
     have c4b0 : decide (0 ≤ x3_1) = true := decide_eq_true c4
     clear c4
     by_cases c5 : (rd l0_1 x3_1) = 0
     ·rw [if_pos c5] at H
      have c5b0 : ((rd l0_1 x3_1) == 0) = true := beq_iff_eq.mpr c5
      have c5b1 : ((rd l0_1 x3_1) != 0) = false := bne_eq_false_iff_eq.mpr c5
      clear c5
      have H' := Aside0.mk H
      clear H
      obtain ⟨_, _, _, _⟩ := cFour BK495
      have p496 : 0 ≤ (x3_1 : Int) := of_decide_eq_true (by first | (with_reducible assumption) | assumption)
      have q496 : x3_1 < (l0_1.length : Int) := of_decide_eq_true (by first | (with_reducible assumption) | assumption)
      obtain ⟨ad496, e496, hx496_0⟩ := Kd.at_int HR0_1.out x3_1 p496 q496
      cases e496
      replace hx496_0 := (HB.out.cell (World.block_lt_of_cell? w _ hx496_0)).trans hx496_0
      replace p496 := eq_true p496
      replace q496 := eq_true q496
      go_wp2
      go_roundg k1
      case measure => have := HK1.out; omega
      case rel => exact ⟨(wrap64 (x3_1 + 1)), (by first | rfl | (simp; done) | (simp [*]; done)), H', ⟨by have := HK1.out; omega⟩, ⟨mb BK495⟩, ⟨ms HB⟩⟩
     rw [if_neg c5] at H
     have c5b0 : ((rd l0_1 x3_1) == 0) = false := beq_eq_false_iff_ne.mpr c5
     have c5b1 : ((rd l0_1 x3_1) != 0) = true := bne_iff_ne.mpr c5
     obtain rfl := Option.some.inj H
     obtain ⟨_, _, _, _⟩ := cFour BK495
     have p496 : 0 ≤ (x3_1 : Int) := of_decide_eq_true (by first | (with_reducible assumption) | assumption)
     have q496 : x3_1 < (l0_1.length : Int) := of_decide_eq_true (by first | (with_reducible assumption) | assumption)
     obtain ⟨ad496, e496, hx496_0⟩ := Kd.at_int HR0_1.out x3_1 p496 q496
     cases e496
     replace hx496_0 := (HB.out.cell (World.block_lt_of_cell? w _ hx496_0)).trans hx496_0
     replace p496 := eq_true p496
     replace q496 := eq_true q496
     go_wp2
     go_ret
     exact ⟨by first | rfl | (simp [errW_none, errW_some] <;> rfl) | (simp [*, errW_none, errW_some] <;> rfl), ms HB⟩
    rw [if_neg c4] at H
    exact absurd H (by simp)
   rw [if_neg c3] at H
   have c3b0 : decide (x3_1 < (l0_1.length : Int)) = false := decide_eq_false c3
   clear c3
   obtain rfl := Option.some.inj H
   obtain ⟨_, _, _, _⟩ := cFour BK495
   go_wp2
   go_ret
   exact ⟨by first | rfl | (simp [errW_none, errW_some] <;> rfl) | (simp [*, errW_none, errW_some] <;> rfl), ms HB⟩

end Go.Proofs.Ytelgmnlkkhikfaa.QFnFarkas
