-- Made by a program of this claim's own (wip/print): not the kit's print as it stands.
import Derived.Test.YtelgmnlkkhikfaaUFnFarkasTri
import Derived.Test.YtelgmnlkkhikfaaQFnFarkasx0
import Derived.Test.YtelgmnlkkhikfaaQFnFarkasx1
import Derived.Test.YtelgmnlkkhikfaaQFnFarkasx5
import Derived.Test.YtelgmnlkkhikfaaQFnFarkasx6
import Derived.Test.YtelgmnlkkhikfaaQFnFarkasx8
import Derived.Test.YtelgmnlkkhikfaaQFnFarkasx16
namespace Go.Proofs.Ytelgmnlkkhikfaa.QFnFarkas
open Go.RowKit Go.Proofs.YtelgmnlkkhikfaaV.PrintWords Go.Proofs.YtelgmnlkkhikfaaV.PrintLast Go.Proofs.YtelgmnlkkhikfaaV.PrintMore
attribute [local go_sem] max2_int min2_int max_two min_two max_three min_three max_four min_four   -- for this text's walks alone
set_option linter.unusedVariables false
set_option linter.unusedSimpArgs false

/-! ### spec_CheckFarkas: function 28 -/
def spec_CheckFarkas.j0 : Nat → Bool → Int → List (S36) → Int → List Int → Int → List Int → Int → List Int → Option (Bool)
 | 0, _, _, _, _, _, _, _, _, _ => none
 | k + 1, x34, x498000, x498001, x499000, x499001, x500000, x500001, x506000, x506001 => if x34 = true then (some false) else ((spec_ConstLin.f 1 x498000).bind fun bt508 => ((spec_AddScaled.f k x499000 x499001 1 bt508.1 bt508.2).bind fun bt512 => ((spec_AddScaled.f k x506000 x506001 (wrap64 (-x500000)) bt512.1 bt512.2.1).bind fun bt518 => (if bt512.2.2 = true then (if bt518.2.2 = true then ((spec_IsConstant.f k bt518.1 bt518.2.1).bind fun t524 => (if t524 = true then (some (decide (bt518.1 < 0))) else (some false))) else (some false)) else (some false)))))
def spec_CheckFarkas.f (k : Nat) (a0_0 : Int) (l0_1 : List (S36)) (a1_0 : Int) (l1_1 : List Int) (a2_0 : Int) (l2_1 : List Int) : Option (Bool) := (spec_CombineRows.f k a0_0 l0_1 l2_1).bind fun bt500 => (if bt500.2.2 = true then ((spec_IsValidLin.f k a1_0 l1_1 a0_0).bind fun t506 => (if t506 = true then ((spec_l1In.f a2_0 0 1000000000).bind fun t507 => (spec_CheckFarkas.j0 k (!t507) a0_0 l0_1 a1_0 l1_1 a2_0 l2_1 bt500.1 bt500.2.1)) else (spec_CheckFarkas.j0 k true a0_0 l0_1 a1_0 l1_1 a2_0 l2_1 bt500.1 bt500.2.1))) else (spec_CheckFarkas.j0 k true a0_0 l0_1 a1_0 l1_1 a2_0 l2_1 bt500.1 bt500.2.1))
theorem spec_CheckFarkas.mono_l : ∀ k, (∀ y0 y1 y2 y3 y4 y5 y6 y7 y8, LeO (spec_CheckFarkas.j0 k y0 y1 y2 y3 y4 y5 y6 y7 y8) (spec_CheckFarkas.j0 (k + 1) y0 y1 y2 y3 y4 y5 y6 y7 y8))
 | 0 => fun _ _ _ _ _ _ _ _ _ r h => by simp [spec_CheckFarkas.j0] at h
 | k + 1 => by
  have ih0 := spec_CheckFarkas.mono_l k
  ·intro y0 y1 y2 y3 y4 y5 y6 y7 y8
   unfold spec_CheckFarkas.j0
   repeat' with_reducible first
   | exact ih0 _ _ _ _ _ _ _ _ _
   | exact spec_AddScaled.mono _ _ _ _ _ _
   | exact spec_CombineRows.mono _ _ _ _
   | exact spec_IsConstant.mono _ _ _
   | exact spec_IsValidLin.mono _ _ _ _
   | exact LeO.refl _
   | exact LeO.none _
   | refine LeO.ite ?_ ?_
   | refine LeO.bind ?_ (fun _ => ?_)
theorem spec_CheckFarkas.mono : ∀ a0 a1 a2 a3 a4 a5 k, LeO (spec_CheckFarkas.f k a0 a1 a2 a3 a4 a5) (spec_CheckFarkas.f (k + 1) a0 a1 a2 a3 a4 a5) := by
 intro a0 a1 a2 a3 a4 a5 k
 have ih0 := spec_CheckFarkas.mono_l k
 unfold spec_CheckFarkas.f
 repeat' with_reducible first
 | exact ih0 _ _ _ _ _ _ _ _ _
 | exact spec_AddScaled.mono _ _ _ _ _ _
 | exact spec_CombineRows.mono _ _ _ _
 | exact spec_IsConstant.mono _ _ _
 | exact spec_IsValidLin.mono _ _ _ _
 | exact LeO.refl _
 | exact LeO.none _
 | refine LeO.ite ?_ ?_
 | refine LeO.bind ?_ (fun _ => ?_)
def spec_CheckFarkas.T4 : Bool × List (List Nat × List Nat) := (true, [([], []), ([], []), ([1], [1]), ([2], [2]), ([0, 3, 3], [0, 3]), ([4], [4]), ([5], [5]), ([5], [5]), ([], []), ([8, 6, 4, 0, 1, 2, 3, 4, 5, 6, 8], [6, 8]), ([7, 9, 0, 1, 2, 3, 4, 5, 6, 7, 8, 9], [7])])
def spec_CheckFarkas.B4 : List Nat := [0, 0, 2, 6, 15, 31, 63, 63, 0, 383, 1023]
theorem spec_CheckFarkas.tab4 : rtab .any (opsOf Try.f28 4) = spec_CheckFarkas.T4 := by kernel_rfl
theorem spec_CheckFarkas.bits4 : waitsOk spec_CheckFarkas.T4.2 spec_CheckFarkas.B4 = true := by kernel_rfl
set_option maxHeartbeats 8000000 in
set_option maxRecDepth 100000 in
theorem spec_CheckFarkas.calls (k : Nat) (a0_0 : Int) (A0_1 : Option Addr) (c0_1 : Nat) (l0_1 : List (S36)) (a1_0 : Int) (A1_1 : Option Addr) (c1_1 : Nat) (l1_1 : List Int) (a2_0 : Int) (A2_1 : Option Addr) (c2_1 : Nat) (l2_1 : List Int) (r : Bool) (w : World) (hr0_1 : Kd.C k36 w A0_1 l0_1.length l0_1) (hc0_1 : l0_1.length ≤ c0_1) (hr1_1 : Kd.C (Kd.int .i64) w A1_1 l1_1.length l1_1) (hc1_1 : l1_1.length ≤ c1_1) (hr2_1 : Kd.C (Kd.int .i64) w A2_1 l2_1.length l2_1) (hc2_1 : l2_1.length ≤ c2_1) (h : spec_CheckFarkas.f k a0_0 l0_1 a1_0 l1_1 a2_0 l2_1 = some r) :
  Calls Try.prog 28 #[.agg #[.int .i64 a0_0, .slice A0_1 l0_1.length c0_1], .agg #[.int .i64 a1_0, .slice A1_1 l1_1.length c1_1], .agg #[.int .i64 a2_0, .slice A2_1 l2_1.length c2_1]] w fun e w' => e = .returned (.bool r) ∧ Below w.heap.size w w' := by
 have hu33 := Try.underlying33
 have hu36 := Try.underlying36
 have hu38 := Try.underlying38
 have HR0_1 := Aside0.mk hr0_1
 have HC0_1 := Aside0.mk hc0_1
 clear hr0_1 hc0_1
 have HR1_1 := Aside0.mk hr1_1
 have HC1_1 := Aside0.mk hc1_1
 clear hr1_1 hc1_1
 have HR2_1 := Aside0.mk hr2_1
 have HC2_1 := Aside0.mk hc2_1
 clear hr2_1 hc2_1
 have HB := Aside0.mk (Below.refl w.heap.size w)
 have H : ((spec_CombineRows.f k a0_0 l0_1 l2_1).bind fun bt500 => (if bt500.2.2 = true then ((spec_IsValidLin.f k a1_0 l1_1 a0_0).bind fun t506 => (if t506 = true then ((spec_l1In.f a2_0 0 1000000000).bind fun t507 => (spec_CheckFarkas.j0 k (!t507) a0_0 l0_1 a1_0 l1_1 a2_0 l2_1 bt500.1 bt500.2.1)) else (spec_CheckFarkas.j0 k true a0_0 l0_1 a1_0 l1_1 a2_0 l2_1 bt500.1 bt500.2.1))) else (spec_CheckFarkas.j0 k true a0_0 l0_1 a1_0 l1_1 a2_0 l2_1 bt500.1 bt500.2.1))) = some r := h
 clear h
 replace H := Option.bind_eq_some_iff.mp H
 obtain ⟨⟨t500, t501, t504⟩, A40, H⟩ := H
 replace H : (if t504 = true then ((spec_IsValidLin.f k a1_0 l1_1 a0_0).bind fun t506 => (if t506 = true then ((spec_l1In.f a2_0 0 1000000000).bind fun t507 => (spec_CheckFarkas.j0 k (!t507) a0_0 l0_1 a1_0 l1_1 a2_0 l2_1 t500 t501)) else (spec_CheckFarkas.j0 k true a0_0 l0_1 a1_0 l1_1 a2_0 l2_1 t500 t501))) else (spec_CheckFarkas.j0 k true a0_0 l0_1 a1_0 l1_1 a2_0 l2_1 t500 t501)) = some r := H
 have A4 := Aside0.mk A40
 clear A40
 have HC5 := Aside0.mk H
 clear H
 go_enter Try.func28, Try.ntmps28
 go_upto_region 2 with (first | ((with_reducible refine gate_dst (N := 3) rfl ?_); refine box_event ?hg (N := 3) ?hd (cs := #[.int .i64 a0_0, .slice A0_1 l0_1.length c0_1]) (t := 33) ?hr ?_; (case hd => rfl); (case hg => rfl); (case hr => first | (go_simp; done) | (go_simp; rfl)); intro gb497 hg w6 hbox hb; have BK497 := Aside0.mk (hbox); have GW497 := gw hg HB; have GE497 := gw hg HB; replace HB := bs HB hb; clear hb hbox hg) | ((with_reducible refine gate_dst (N := 4) rfl ?_); refine box_event ?hg (N := 4) ?hd (cs := #[.int .i64 a1_0, .slice A1_1 l1_1.length c1_1]) (t := 36) ?hr ?_; (case hd => rfl); (case hg => rfl); (case hr => first | (go_simp; done) | (go_simp; rfl)); intro gb498 hg w7 hbox hb; have BK498 := Aside0.mk (hbox); have GW498 := gw hg HB; have GE498 := gw hg HB; replace HB := bs HB hb; have NB497_498 := nl hg BK497; have NB498_497 := ng hg BK497; replace BK497 := bb BK497 hb; clear hb hbox hg) | ((with_reducible refine gate_dst (N := 5) rfl ?_); refine box_event ?hg (N := 5) ?hd (cs := #[.int .i64 a2_0, .slice A2_1 l2_1.length c2_1]) (t := 38) ?hr ?_; (case hd => rfl); (case hg => rfl); (case hr => first | (go_simp; done) | (go_simp; rfl)); intro gb499 hg w8 hbox hb; have BK499 := Aside0.mk (hbox); have GW499 := gw hg HB; have GE499 := gw hg HB; replace HB := bs HB hb; have NB497_499 := nl hg BK497; have NB499_497 := ng hg BK497; replace BK497 := bb BK497 hb; have NB498_499 := nl hg BK498; have NB499_498 := ng hg BK498; replace BK498 := bb BK498 hb; clear hb hbox hg; have := NB497_498.out; have := NB498_497.out; have := NB497_499.out; have := NB499_497.out; obtain ⟨hcz11_0, hcz11_1, hfz11_0, hfz11_1⟩ := cFour BK497; have := NB499_498.out; have := NB498_499.out; obtain ⟨hcz13_0, hcz13_1, hfz13_0, hfz13_1⟩ := cFour BK499) | ((with_reducible refine gate_callee (f := 58) rfl ?_); refine gl (some 17) rfl rfl Try.func58 (by kernel_rfl) rfl #[.agg #[.int .i64 a0_0, .slice A0_1 l0_1.length c0_1], .slice A2_1 l2_1.length c2_1] rfl ?_; (with_reducible refine (spec_CombineRows.calls k a0_0 _ _ l0_1 _ _ l2_1 t500 t501 t504 _ ?side1 ?side2 ?side3 ?side4 A4.out).mono ?_); (case side1 => exact mc ((Kd.C_below HR0_1.out HB.out))); (case side2 => exact HC0_1.out); (case side3 => exact mc ((Kd.C_below HR2_1.out HB.out))); (case side4 => exact HC2_1.out); rintro e w14 ⟨v502, rfl, ho0, hb⟩; refine ⟨_, rfl, ?_⟩; have HO503 := Aside0.mk (Kd.R_lower ho0 (below_size (ms HB))); replace BK497 := bb BK497 hb; replace BK498 := bb BK498 hb; replace BK499 := bb BK499 hb; replace HB := bs HB hb; (try clear hb); (try clear ho0)) | ((with_reducible refine gate_dst (N := 7) rfl ?_); refine box_event ?hg (N := 7) ?hd (cs := #[.int .i64 0, .slice none 0 0]) (t := 36) ?hr ?_; (case hd => rfl); (case hg => rfl); (case hr => first | (go_simp; done) | (go_simp; rfl)); intro gb505 hg w15 hbox hb; replace HO503 := rb HO503 hb; have BK505 := Aside0.mk (hbox); have GW505 := gw hg HB; have GE505 := gw hg HB; replace HB := bs HB hb; have NB497_505 := nl hg BK497; have NB505_497 := ng hg BK497; replace BK497 := bb BK497 hb; have NB498_505 := nl hg BK498; have NB505_498 := ng hg BK498; replace BK498 := bb BK498 hb; have NB499_505 := nl hg BK499; have NB505_499 := ng hg BK499; replace BK499 := bb BK499 hb; clear hb hbox hg; have := NB505_497.out; have := NB497_505.out; have := NB505_498.out; have := NB498_505.out; have := NB505_499.out; have := NB499_505.out; obtain ⟨hcz19_0, hcz19_1, hfz19_0, hfz19_1⟩ := cFour BK505; obtain ⟨Ao20, co20, eo20⟩ := Kd.R_slice HO503.out; subst eo20))
 (try simp only [Act.put, List.setIfInBounds_toArray, List.set_cons_zero, List.set_cons_succ])
 go_cut [34] (fun v34 wc => ∃ (kq : Nat) (x34_4 : Bool), v34 = .bool x34_4 ∧ Aside0 (spec_CheckFarkas.j0 kq x34_4 a0_0 l0_1 a1_0 l1_1 a2_0 l2_1 t500 t501 = some r) ∧ Aside0 (kq ≤ k) ∧ Aside0 (Kd.R (Kd.int .i64) 3 wc w.heap.size (fun _ => True) (.slice Ao20 t501.length co20) t501) ∧ Aside0 (wc.heap[gb497]? = some (.cells #[.int .i64 a0_0, (.slice A0_1 l0_1.length c0_1)] 33 (0, 0))) ∧ Aside0 (wc.heap[gb498]? = some (.cells #[.int .i64 a1_0, (.slice A1_1 l1_1.length c1_1)] 36 (0, 0))) ∧ Aside0 (wc.heap[gb499]? = some (.cells #[.int .i64 a2_0, (.slice A2_1 l2_1.length c2_1)] 38 (0, 0))) ∧ Aside0 (wc.heap[gb505]? = some (.cells #[.int .i64 t500, (.slice Ao20 t501.length co20)] 36 (0, 0))) ∧ Aside0 (Below w.heap.size w wc))
 case first =>
  have H := HC5.out
  clear HC5
  by_cases c21 : t504 = true
  ·subst c21
   have H1 : ((spec_IsValidLin.f k a1_0 l1_1 a0_0).bind fun t506 => (if t506 = true then ((spec_l1In.f a2_0 0 1000000000).bind fun t507 => (spec_CheckFarkas.j0 k (!t507) a0_0 l0_1 a1_0 l1_1 a2_0 l2_1 t500 t501)) else (spec_CheckFarkas.j0 k true a0_0 l0_1 a1_0 l1_1 a2_0 l2_1 t500 t501))) = some r := by rw [if_pos rfl] at H; exact H
   clear H
   have H := H1
   clear H1
   replace H := Option.bind_eq_some_iff.mp H
   obtain ⟨t506, A220, H⟩ := H
   replace H : (if t506 = true then ((spec_l1In.f a2_0 0 1000000000).bind fun t507 => (spec_CheckFarkas.j0 k (!t507) a0_0 l0_1 a1_0 l1_1 a2_0 l2_1 t500 t501)) else (spec_CheckFarkas.j0 k true a0_0 l0_1 a1_0 l1_1 a2_0 l2_1 t500 t501)) = some r := H
   have A22 := Aside0.mk A220
   clear A220
   by_cases c23 : t506 = true
   ·subst c23
    have H1 : ((spec_l1In.f a2_0 0 1000000000).bind fun t507 => (spec_CheckFarkas.j0 k (!t507) a0_0 l0_1 a1_0 l1_1 a2_0 l2_1 t500 t501)) = some r := by rw [if_pos rfl] at H; exact H
    clear H
    have H := H1
    clear H1
    replace H := Option.bind_eq_some_iff.mp H
    obtain ⟨t507, A240, H⟩ := H
    replace H : (spec_CheckFarkas.j0 k (!t507) a0_0 l0_1 a1_0 l1_1 a2_0 l2_1 t500 t501) = some r := H
    have A24 := Aside0.mk A240
    clear A240
    have H' := Aside0.mk H
    clear H
    have := NB498_497.out
    have := NB497_498.out
    have := NB498_499.out
    have := NB499_498.out
    have := NB498_505.out
    have := NB505_498.out
    obtain ⟨hcz28_0, hcz28_1, hfz28_0, hfz28_1⟩ := cFour BK498
    have := NB497_499.out
    have := NB499_497.out
    have := NB497_505.out
    have := NB505_497.out
    obtain ⟨hcz31_0, hcz31_1, hfz31_0, hfz31_1⟩ := cFour BK497
    go_wp2_with (first | (go_at_call 68; (with_reducible refine (spec_IsValidLin.calls k a1_0 _ _ l1_1 a0_0 true _ ?side1 ?side2 A22.out).mono ?_); (case side1 => exact Kd.C_below HR1_1.out (ms HB)); (case side2 => exact HC1_1.out); rintro e w32 ⟨rfl, hb⟩; have n0_ := Aside0.mk (Kd.R_below (by (with_reducible repeat (first | apply Kd.R_alloc | apply Kd.R_drewN | apply Kd.R_drew)); exact (rTwo HO503 BK505)) hb); have n1_ := bf BK497 hb; have n2_ := bf BK498 hb; have n3_ := bf BK499 hb; have n4_ := bp BK505 hb; have n5_ := bs HB hb; clear HO503 BK497 BK498 BK499 BK505 HB; have HO503 := n0_; have BK497 := n1_; have BK498 := n2_; have BK499 := n3_; have BK505 := n4_; have HB := n5_; clear n0_ n1_ n2_ n3_ n4_ n5_; (try clear hb); have := NB499_505.out; have := NB505_499.out; obtain ⟨hcz34_0, hcz34_1, hfz34_0, hfz34_1⟩ := cFour BK499) | (go_at_call 49; (with_reducible refine (spec_l1In.calls a2_0 0 1000000000 t507 _ A24.out).mono ?_); rintro e w' ⟨rfl, ⟨nd, rfl⟩⟩))
    go_meet
    case rel => exact ⟨_, (!t507), (by first | rfl | (simp; done) | (simp [*]; done)), H', ⟨by first | omega | exact Nat.le_refl _⟩, ⟨by (with_reducible repeat (first | apply Kd.R_alloc | apply Kd.R_drewN | apply Kd.R_drew)); exact HO503.out⟩, ⟨mb BK497⟩, ⟨mb BK498⟩, ⟨mb BK499⟩, ⟨mb BK505⟩, ⟨ms HB⟩⟩
   replace c23 := Bool.eq_false_iff.mpr c23
   subst c23
   have H1 : (spec_CheckFarkas.j0 k true a0_0 l0_1 a1_0 l1_1 a2_0 l2_1 t500 t501) = some r := by rw [if_neg (show ¬ (false = true) by decide)] at H; exact H
   clear H
   have H := H1
   clear H1
   have H' := Aside0.mk H
   clear H
   have := NB498_497.out
   have := NB497_498.out
   have := NB498_499.out
   have := NB499_498.out
   have := NB498_505.out
   have := NB505_498.out
   obtain ⟨hcz38_0, hcz38_1, hfz38_0, hfz38_1⟩ := cFour BK498
   have := NB497_499.out
   have := NB499_497.out
   have := NB497_505.out
   have := NB505_497.out
   obtain ⟨hcz41_0, hcz41_1, hfz41_0, hfz41_1⟩ := cFour BK497
   go_wp2_with (first | (go_at_call 68; (with_reducible refine (spec_IsValidLin.calls k a1_0 _ _ l1_1 a0_0 false _ ?side1 ?side2 A22.out).mono ?_); (case side1 => exact Kd.C_below HR1_1.out (ms HB)); (case side2 => exact HC1_1.out); rintro e w42 ⟨rfl, hb⟩; have n0_ := Aside0.mk (Kd.R_below (by (with_reducible repeat (first | apply Kd.R_alloc | apply Kd.R_drewN | apply Kd.R_drew)); exact (rTwo HO503 BK505)) hb); have n1_ := bf BK497 hb; have n2_ := bf BK498 hb; have n3_ := bf BK499 hb; have n4_ := bp BK505 hb; have n5_ := bs HB hb; clear HO503 BK497 BK498 BK499 BK505 HB; have HO503 := n0_; have BK497 := n1_; have BK498 := n2_; have BK499 := n3_; have BK505 := n4_; have HB := n5_; clear n0_ n1_ n2_ n3_ n4_ n5_; (try clear hb)))
   go_meet
   case rel => exact ⟨_, (true), (by first | rfl | (simp; done) | (simp [*]; done)), H', ⟨by first | omega | exact Nat.le_refl _⟩, ⟨by (with_reducible repeat (first | apply Kd.R_alloc | apply Kd.R_drewN | apply Kd.R_drew)); exact HO503.out⟩, ⟨mb BK497⟩, ⟨mb BK498⟩, ⟨mb BK499⟩, ⟨mb BK505⟩, ⟨ms HB⟩⟩
  replace c21 := Bool.eq_false_iff.mpr c21
  subst c21
  have H1 : (spec_CheckFarkas.j0 k true a0_0 l0_1 a1_0 l1_1 a2_0 l2_1 t500 t501) = some r := by rw [if_neg (show ¬ (false = true) by decide)] at H; exact H
  clear H
  have H := H1
  clear H1
  have H' := Aside0.mk H
  clear H
  go_wp2
  go_meet
  case rel => exact ⟨_, (true), (by first | rfl | (simp; done) | (simp [*]; done)), H', ⟨by first | omega | exact Nat.le_refl _⟩, ⟨by (with_reducible repeat (first | apply Kd.R_alloc | apply Kd.R_drewN | apply Kd.R_drew)); exact Kd.R_mono (Kd.R_far (p := ⟨gb505, 1, none⟩) (Kd.R_far (p := ⟨gb505, 0, none⟩) (Kd.R_types HO503.out BK505.out (by decide)) (fun _ hk => hk.2) (.int .i64 t500)) (fun _ hk => hk.2) (.slice Ao20 t501.length co20)) (fun _ hk => trivial)⟩, ⟨mf BK497⟩, ⟨mf BK498⟩, ⟨mf BK499⟩, ⟨mq BK505⟩, ⟨ms HB⟩⟩
 case rest =>
  clear HC5
  try clear c1
  try clear c2
  try clear p2
  try clear c3
  try clear c4
  try clear c5
  try clear c9
  try clear c10
  try clear c12
  try clear c16
  try clear c17
  try clear c18
  try clear c21
  try clear c23
  try clear c25
  try clear c26
  try clear c27
  try clear c28
  try clear c29
  try clear c30
  try clear c33
  try clear c35
  try clear c36
  try clear c37
  try clear c39
  try clear c40
  try clear hcz11_0
  try clear hcz11_1
  try clear hcz13_0
  try clear hcz13_1
  try clear hcz19_0
  try clear hcz19_1
  try clear hcz28_0
  try clear hcz28_1
  try clear hcz31_0
  try clear hcz31_1
  try clear hcz34_0
  try clear hcz34_1
  try clear hcz38_0
  try clear hcz38_1
  try clear hcz41_0
  try clear hcz41_1
  try clear hfz11_0
  try clear hfz11_1
  try clear hfz13_0
  try clear hfz13_1
  try clear hfz19_0
  try clear hfz19_1
  try clear hfz28_0
  try clear hfz28_1
  try clear hfz31_0
  try clear hfz31_1
  try clear hfz34_0
  try clear hfz34_1
  try clear hfz38_0
  try clear hfz38_1
  try clear hfz41_0
  try clear hfz41_1
  obtain ⟨kq, x34_4, rfl, HA, HJ4, HO_506001, BK497, BK498, BK499, BK505, HB⟩ := hcut
  cases kq with
  | zero => exact absurd HA.out (by simp [spec_CheckFarkas.j0])
  | succ kj4 =>
   have H := HA.out
   clear HA
   simp only [spec_CheckFarkas.j0] at H
   by_cases c43 : x34_4 = true
   ·subst c43
    have H1 : (some false) = some r := by rw [if_pos rfl] at H; exact H
    clear H
    have H := H1
    clear H1
    obtain rfl := Option.some.inj H
    go_wp2
    go_ret
    exact ⟨by first | rfl | (simp [errW_none, errW_some] <;> rfl) | (simp [*, errW_none, errW_some] <;> rfl), ms HB⟩
   replace c43 := Bool.eq_false_iff.mpr c43
   subst c43
   have H1 : ((spec_ConstLin.f 1 a0_0).bind fun bt508 => ((spec_AddScaled.f kj4 a1_0 l1_1 1 bt508.1 bt508.2).bind fun bt512 => ((spec_AddScaled.f kj4 t500 t501 (wrap64 (-a2_0)) bt512.1 bt512.2.1).bind fun bt518 => (if bt512.2.2 = true then (if bt518.2.2 = true then ((spec_IsConstant.f kj4 bt518.1 bt518.2.1).bind fun t524 => (if t524 = true then (some (decide (bt518.1 < 0))) else (some false))) else (some false)) else (some false))))) = some r := by rw [if_neg (show ¬ (false = true) by decide)] at H; exact H
   clear H
   have H := H1
   clear H1
   replace H := Option.bind_eq_some_iff.mp H
   obtain ⟨⟨t508, t509⟩, A440, H⟩ := H
   replace H : ((spec_AddScaled.f kj4 a1_0 l1_1 1 t508 t509).bind fun bt512 => ((spec_AddScaled.f kj4 t500 t501 (wrap64 (-a2_0)) bt512.1 bt512.2.1).bind fun bt518 => (if bt512.2.2 = true then (if bt518.2.2 = true then ((spec_IsConstant.f kj4 bt518.1 bt518.2.1).bind fun t524 => (if t524 = true then (some (decide (bt518.1 < 0))) else (some false))) else (some false)) else (some false)))) = some r := H
   have A44 := Aside0.mk A440
   clear A440
   replace H := Option.bind_eq_some_iff.mp H
   obtain ⟨⟨t512, t513, t516⟩, A450, H⟩ := H
   replace H : ((spec_AddScaled.f kj4 t500 t501 (wrap64 (-a2_0)) t512 t513).bind fun bt518 => (if t516 = true then (if bt518.2.2 = true then ((spec_IsConstant.f kj4 bt518.1 bt518.2.1).bind fun t524 => (if t524 = true then (some (decide (bt518.1 < 0))) else (some false))) else (some false)) else (some false))) = some r := H
   have A45 := Aside0.mk A450
   clear A450
   replace H := Option.bind_eq_some_iff.mp H
   obtain ⟨⟨t518, t519, t522⟩, A460, H⟩ := H
   replace H : (if t516 = true then (if t522 = true then ((spec_IsConstant.f kj4 t518 t519).bind fun t524 => (if t524 = true then (some (decide (t518 < 0))) else (some false))) else (some false)) else (some false)) = some r := H
   have A46 := Aside0.mk A460
   clear A460
   by_cases c47 : t516 = true
   ·subst c47
    have H1 : (if t522 = true then ((spec_IsConstant.f kj4 t518 t519).bind fun t524 => (if t524 = true then (some (decide (t518 < 0))) else (some false))) else (some false)) = some r := by rw [if_pos rfl] at H; exact H
    clear H
    have H := H1
    clear H1
    by_cases c48 : t522 = true
    ·subst c48
     have H1 : ((spec_IsConstant.f kj4 t518 t519).bind fun t524 => (if t524 = true then (some (decide (t518 < 0))) else (some false))) = some r := by rw [if_pos rfl] at H; exact H
     clear H
     have H := H1
     clear H1
     replace H := Option.bind_eq_some_iff.mp H
     obtain ⟨t524, A490, H⟩ := H
     replace H : (if t524 = true then (some (decide (t518 < 0))) else (some false)) = some r := H
     have A49 := Aside0.mk A490
     clear A490
     by_cases c50 : t524 = true
     ·subst c50
      have H1 : (some (decide (t518 < 0))) = some r := by rw [if_pos rfl] at H; exact H
      clear H
      have H := H1
      clear H1
      obtain rfl := Option.some.inj H
      try go_wp2
      replace HO_506001 := Aside0.mk (Kd.R_drew HO_506001.out)
      replace BK497 := Aside0.mk (blk_drew BK497.out)
      replace BK498 := Aside0.mk (blk_drew BK498.out)
      replace BK499 := Aside0.mk (blk_drew BK499.out)
      replace BK505 := Aside0.mk (blk_drew BK505.out)
      replace HB := Aside0.mk (below_drew1 HB.out)
      refine start_ (n := 11) (S := fun w' => w'.cell? ⟨gb498, 0, none⟩ = some (.int .i64 a1_0) ∧ w'.cell? ⟨gb498, 1, none⟩ = some (.slice A1_1 l1_1.length c1_1) ∧ w'.cell? ⟨gb497, 0, none⟩ = some (.int .i64 a0_0) ∧ w'.cell? ⟨gb497, 1, none⟩ = some (.slice A0_1 l0_1.length c0_1)) (ds := []) #[false, false, false, false, false, false, false, false, false, false, false] (by kernel_rfl) rfl rfl ⟨(c2 BK498).1, (c2 BK498).2, (c2 BK497).1, (c2 BK497).2⟩ (fun hHeld => ?_); refine with_tabW spec_CheckFarkas.tab4 spec_CheckFarkas.bits4 (fun HT_ HW_ => ?_)
      generalize wc.drew = w51 at HO_506001 BK497 BK498 BK499 BK505 HB hHeld ⊢
      refine pu 1 (some 37) (v := ?_) (a' := ?_) #[false, true, false, false, false, false, false, false, false, false, false] rfl rfl HT_ (fun _ _ _ h => h) (by rfl) ?_ ?_ ?_
      rotate_left
      ·intro w'
       go_simp
       with_reducible rfl
      rotate_left
      ·simp only [Act.put, z1, z2, z3, i64_w, i32_w]
       rfl
      refine tk 0 (some 36) (v := ?_) (a' := ?_) #[true, true, false, false, false, false, false, false, false, false, false] rfl rfl HT_ HW_ (fun _ _ _ h => h) (by rfl) ?_ hHeld ?_ ?_
      rotate_left
      ·rintro w' ⟨s0, s1, s2, s3⟩
       go_simp
       with_reducible rfl
      rotate_left
      ·simp only [Act.put, z1, z2, z3, i64_w, i32_w]
       rfl
      refine tk 2 (some 38) (v := ?_) (a' := ?_) #[true, true, true, false, false, false, false, false, false, false, false] rfl rfl HT_ HW_ (fun _ _ _ h => h) (by rfl) ?_ hHeld ?_ ?_
      rotate_left
      ·rintro w' ⟨s0, s1, s2, s3⟩
       go_simp
       with_reducible rfl
      rotate_left
      ·simp only [Act.put, z1, z2, z3, i64_w, i32_w]
       rfl
      refine join_ (σ := Value × Value × Nat) 2 #[true, true, true, true, true, true, true, true, true, false, false] (fun s_ => [(39, .agg #[.int .i64 t508, s_.1]), (40, .tuple #[.agg #[.int .i64 t512, s_.2.1], .bool true]), (9, .pointer (some ⟨s_.2.2, 0, none⟩)), (35, .tuple #[.agg #[.int .i64 t512, s_.2.1], .bool true]), (41, .agg #[.int .i64 t512, s_.2.1]), (42, .bool true)]) (fun s_ w' => (w'.cell? ⟨gb498, 0, none⟩ = some (.int .i64 a1_0) ∧ w'.cell? ⟨gb498, 1, none⟩ = some (.slice A1_1 l1_1.length c1_1) ∧ w'.cell? ⟨gb497, 0, none⟩ = some (.int .i64 a0_0) ∧ w'.cell? ⟨gb497, 1, none⟩ = some (.slice A0_1 l0_1.length c0_1)) ∧ (Kd.R (Kd.int .i64) 3 w' w.heap.size (fun k_ => some k_ ≠ (s_.2.1 : Value).ownBlock ∧ some k_ ≠ (.slice Ao20 t501.length co20 : Value).ownBlock) s_.1 t509) ∧ (Kd.R (Kd.int .i64) 3 w' w.heap.size (fun k_ => some k_ ≠ (s_.1 : Value).ownBlock ∧ some k_ ≠ (.slice Ao20 t501.length co20 : Value).ownBlock) s_.2.1 t513) ∧ (Kd.R (Kd.int .i64) 3 w' w.heap.size (fun k_ => some k_ ≠ (s_.1 : Value).ownBlock ∧ some k_ ≠ (s_.2.1 : Value).ownBlock) (.slice Ao20 t501.length co20) t501) ∧ (w'.heap[gb497]? = some (.cells #[.int .i64 a0_0, .slice A0_1 l0_1.length c0_1] 33 (0, 0))) ∧ (w'.heap[gb498]? = some (.cells #[.int .i64 a1_0, .slice A1_1 l1_1.length c1_1] 36 (0, 0))) ∧ (w'.heap[gb499]? = some (.cells #[.int .i64 a2_0, .slice A2_1 l2_1.length c2_1] 38 (0, 0))) ∧ (w'.heap[gb505]? = some (.cells #[.int .i64 t500, .slice Ao20 t501.length co20] 36 (0, 0))) ∧ (w'.heap[s_.2.2]? = some (.cells #[.int .i64 0, .slice none 0 0] 36 (0, 0))) ∧ (w.heap.size ≤ s_.2.2) ∧ (w.heap.size ≤ s_.2.2) ∧ (gb497 ≠ s_.2.2) ∧ (s_.2.2 ≠ gb497) ∧ (gb498 ≠ s_.2.2) ∧ (s_.2.2 ≠ gb498) ∧ (gb499 ≠ s_.2.2) ∧ (s_.2.2 ≠ gb499) ∧ (gb505 ≠ s_.2.2) ∧ (s_.2.2 ≠ gb505) ∧ (Below w.heap.size w w')) ?_ ?_
      rotate_left
      ·intro hCont
       refine two_ (i := 3) (j := 8) (Ni := some 39) (Nj := some 9) #[true, true, true, true, false, false, false, false, false, false, false] #[true, true, true, false, false, false, false, false, true, false, false] rfl rfl rfl rfl (two_of HT_.out (by kernel_rfl)) (by decide) (by decide) (fun K hK => ?_) (fun K hK => ?_)
       ·skip
        refine gs Try.func44 (by kernel_rfl) rfl #[.int .i64 1, .int .i64 a0_0] (by rfl) rfl rfl ?_
        with_reducible refine (spec_ConstLin.calls 1 a0_0 t508 t509 _ A44.out).mono ?_
        rintro e w52 ⟨v510, rfl, ho0, hb⟩
        refine ⟨_, rfl, ?_⟩
        have HO511 := Aside0.mk (Kd.R_lower (Kd.R_new' ho0 (Kd.R_lt (mr HO_506001))) (below_size (ms HB)))
        replace HO_506001 := rl HO_506001 ho0 hb
        replace BK497 := bb BK497 hb
        replace BK498 := bb BK498 hb
        replace BK499 := bb BK499 hb
        replace BK505 := bb BK505 hb
        replace HB := bs HB hb
        (try clear hb)
        (try clear hb2)
        (try clear hk)
        (try clear hi)
        (try clear ho0)
        obtain ⟨Ao53, co53, eo53⟩ := Kd.R_slice HO511.out
        (first | subst eo53 | (injection eo53 with f1_ f2_ f3_; have f4_ := f1_.symm; have f5_ := f3_.symm; clear f1_ f2_ f3_; subst f4_; subst f5_))
        refine hK.out _ _ ⟨(c2 BK498).1, (c2 BK498).2, (c2 BK497).1, (c2 BK497).2⟩ (fun hHeld => ?_)
        clear hK K
        refine norm_ (a' := ?_) ?_ ?_
        rotate_left
        ·show Act.put _ (some 39) _ = _
         simp only [Act.put, z1, z2, z3, i64_w, i32_w]
         rfl
        refine two_ (i := 4) (j := 8) (Ni := some 40) (Nj := some 9) #[true, true, true, true, true, false, false, false, false, false, false] #[true, true, true, true, false, false, false, false, true, false, false] rfl rfl rfl rfl (two_of HT_.out (by kernel_rfl)) (by decide) (by decide) (fun K hK => ?_) (fun K hK => ?_)
        ·skip
         refine gs Try.func69 (by kernel_rfl) rfl #[.agg #[.int .i64 a1_0, .slice A1_1 l1_1.length c1_1], .int .i64 1, .agg #[.int .i64 t508, .slice Ao53 t509.length co53]] (by rfl) rfl rfl ?_
         with_reducible refine (spec_AddScaled.calls kj4 a1_0 _ _ l1_1 1 t508 _ _ t509 t512 t513 true _ ?side1 ?side2 ?side3 ?side4 A45.out).mono ?_
         (case side1 => exact mc ((Kd.C_below HR1_1.out HB.out)))
         (case side2 => exact HC1_1.out)
         (case side3 => exact mc ((Kd.R_reads' HO511.out).2.2))
         (case side4 => exact (Kd.R_reads' HO511.out).2.1)
         rintro e w54 ⟨v514, rfl, ho0, hb⟩
         refine ⟨_, rfl, ?_⟩
         have HO515 := Aside0.mk (Kd.R_lower (Kd.R_new' (Kd.R_new' ho0 (Kd.R_lt (mr HO_506001))) (Kd.R_lt (mr HO511))) (below_size (ms HB)))
         replace HO_506001 := rl HO_506001 ho0 hb
         replace HO511 := rl HO511 ho0 hb
         replace BK497 := bb BK497 hb
         replace BK498 := bb BK498 hb
         replace BK499 := bb BK499 hb
         replace BK505 := bb BK505 hb
         replace HB := bs HB hb
         (try clear hb)
         (try clear hb2)
         (try clear hk)
         (try clear hi)
         (try clear ho0)
         refine hK.out _ _ ⟨(c2 BK498).1, (c2 BK498).2, (c2 BK497).1, (c2 BK497).2⟩ (fun hHeld => ?_)
         clear hK K
         refine norm_ (a' := ?_) ?_ ?_
         rotate_left
         ·show Act.put _ (some 40) _ = _
          simp only [Act.put, z1, z2, z3, i64_w, i32_w]
          rfl
         refine pu 5 (some 35) (v := ?_) (a' := ?_) #[true, true, true, true, true, true, false, false, false, false, false] rfl rfl HT_ (fun _ _ _ h => h) (by rfl) ?_ ?_ ?_
         rotate_left
         ·intro w'
          go_simp
          with_reducible rfl
         rotate_left
         ·simp only [Act.put, z1, z2, z3, i64_w, i32_w]
          rfl
         refine pu 6 (some 41) (v := ?_) (a' := ?_) #[true, true, true, true, true, true, true, false, false, false, false] rfl rfl HT_ (fun _ _ _ h => h) (by rfl) ?_ ?_ ?_
         rotate_left
         ·intro w'
          go_simp
          with_reducible rfl
         rotate_left
         ·simp only [Act.put, z1, z2, z3, i64_w, i32_w]
          rfl
         refine pu 7 (some 42) (v := ?_) (a' := ?_) #[true, true, true, true, true, true, true, true, false, false, false] rfl rfl HT_ (fun _ _ _ h => h) (by rfl) ?_ ?_ ?_
         rotate_left
         ·intro w'
          go_simp
          with_reducible rfl
         rotate_left
         ·simp only [Act.put, z1, z2, z3, i64_w, i32_w]
          rfl
         refine one_ (i := 8) (N := some 9) #[true, true, true, true, true, true, true, true, true, false, false] rfl rfl (one_of HT_.out (by kernel_rfl)) (by decide) (fun K hK => ?_)
         refine box_step ?hg (N := 9) ?hd (cs := #[.int .i64 0, .slice none 0 0]) (t := 36) ?hr ?_; (case hd => rfl); (case hg => rfl); (case hr => first | (go_simp; done) | (go_simp; rfl))
         intro gb517 hg w55 hbox hb
         replace HO_506001 := rb HO_506001 hb
         replace HO511 := rb HO511 hb
         replace HO515 := rb HO515 hb
         have BK517 := Aside0.mk (hbox)
         have GW517 := gw hg HB
         have GE517 := gw hg HB
         replace HB := bs HB hb
         have NB497_517 := nl hg BK497
         have NB517_497 := ng hg BK497
         replace BK497 := bb BK497 hb
         have NB498_517 := nl hg BK498
         have NB517_498 := ng hg BK498
         replace BK498 := bb BK498 hb
         have NB499_517 := nl hg BK499
         have NB517_499 := ng hg BK499
         replace BK499 := bb BK499 hb
         have NB505_517 := nl hg BK505
         have NB517_505 := ng hg BK505
         replace BK505 := bb BK505 hb
         clear hb hbox hg
         refine hK.out _ _ ⟨(c2 BK498).1, (c2 BK498).2, (c2 BK497).1, (c2 BK497).2⟩ (fun hHeld => ?_)
         clear hK K
         refine norm_ (a' := ?_) ?_ ?_
         rotate_left
         ·show Act.put _ (some 9) _ = _
          simp only [Act.put, z1, z2, z3, i64_w, i32_w]
          rfl
         exact norm_ (by simp only [putAll, Act.put, List.setIfInBounds_toArray, List.set_cons_zero, List.set_cons_succ]) (hCont (.slice Ao53 t509.length co53, v514, gb517) _ ⟨hHeld, (by (with_reducible repeat (first | apply Kd.R_alloc | apply Kd.R_drewN | apply Kd.R_drew)); exact Kd.R_mono HO511.out (fun _ hk => ⟨hk.2, hk.1.2⟩)), (by (with_reducible repeat (first | apply Kd.R_alloc | apply Kd.R_drewN | apply Kd.R_drew)); exact Kd.R_mono HO515.out (fun _ hk => ⟨hk.2, hk.1.2⟩)), (by (with_reducible repeat (first | apply Kd.R_alloc | apply Kd.R_drewN | apply Kd.R_drew)); exact Kd.R_mono HO_506001.out (fun _ hk => ⟨hk.1.2, hk.2⟩)), (mb BK497), (mb BK498), (mb BK499), (mb BK505), (mb BK517), GW517.out, GE517.out, NB497_517.out, NB517_497.out, NB498_517.out, NB517_498.out, NB499_517.out, NB517_499.out, NB505_517.out, NB517_505.out, (ms HB)⟩)
        skip
        refine box_step ?hg (N := 9) ?hd (cs := #[.int .i64 0, .slice none 0 0]) (t := 36) ?hr ?_; (case hd => rfl); (case hg => rfl); (case hr => first | (go_simp; done) | (go_simp; rfl))
        intro gb517 hg w53 hbox hb
        replace HO_506001 := rb HO_506001 hb
        replace HO511 := rb HO511 hb
        have BK517 := Aside0.mk (hbox)
        have GW517 := gw hg HB
        have GE517 := gw hg HB
        replace HB := bs HB hb
        have NB497_517 := nl hg BK497
        have NB517_497 := ng hg BK497
        replace BK497 := bb BK497 hb
        have NB498_517 := nl hg BK498
        have NB517_498 := ng hg BK498
        replace BK498 := bb BK498 hb
        have NB499_517 := nl hg BK499
        have NB517_499 := ng hg BK499
        replace BK499 := bb BK499 hb
        have NB505_517 := nl hg BK505
        have NB517_505 := ng hg BK505
        replace BK505 := bb BK505 hb
        clear hb hbox hg
        obtain ⟨Ao54, co54, eo54⟩ := Kd.R_slice HO511.out
        (first | subst eo54 | (injection eo54 with f1_ f2_ f3_; have f4_ := f1_.symm; have f5_ := f3_.symm; clear f1_ f2_ f3_; subst f4_; subst f5_))
        refine hK.out _ _ ⟨(c2 BK498).1, (c2 BK498).2, (c2 BK497).1, (c2 BK497).2⟩ (fun hHeld => ?_)
        clear hK K
        refine norm_ (a' := ?_) ?_ ?_
        rotate_left
        ·show Act.put _ (some 9) _ = _
         simp only [Act.put, z1, z2, z3, i64_w, i32_w]
         rfl
        refine one_ (i := 4) (N := some 40) #[true, true, true, true, true, false, false, false, true, false, false] rfl rfl (one_of HT_.out (by kernel_rfl)) (by decide) (fun K hK => ?_)
        refine gs Try.func69 (by kernel_rfl) rfl #[.agg #[.int .i64 a1_0, .slice A1_1 l1_1.length c1_1], .int .i64 1, .agg #[.int .i64 t508, .slice Ao54 t509.length co54]] (by rfl) rfl rfl ?_
        with_reducible refine (spec_AddScaled.calls kj4 a1_0 _ _ l1_1 1 t508 _ _ t509 t512 t513 true _ ?side1 ?side2 ?side3 ?side4 A45.out).mono ?_
        (case side1 => exact mc ((Kd.C_below HR1_1.out HB.out)))
        (case side2 => exact HC1_1.out)
        (case side3 => exact mc ((Kd.R_reads' HO511.out).2.2))
        (case side4 => exact (Kd.R_reads' HO511.out).2.1)
        rintro e w55 ⟨v514, rfl, ho0, hb⟩
        refine ⟨_, rfl, ?_⟩
        have HO515 := Aside0.mk (Kd.R_lower (Kd.R_new' (Kd.R_new' ho0 (Kd.R_lt (mr HO_506001))) (Kd.R_lt (mr HO511))) (below_size (ms HB)))
        replace HO_506001 := rl HO_506001 ho0 hb
        replace HO511 := rl HO511 ho0 hb
        replace BK497 := bb BK497 hb
        replace BK498 := bb BK498 hb
        replace BK499 := bb BK499 hb
        replace BK505 := bb BK505 hb
        replace BK517 := bb BK517 hb
        replace HB := bs HB hb
        (try clear hb)
        (try clear hb2)
        (try clear hk)
        (try clear hi)
        (try clear ho0)
        refine hK.out _ _ ⟨(c2 BK498).1, (c2 BK498).2, (c2 BK497).1, (c2 BK497).2⟩ (fun hHeld => ?_)
        clear hK K
        refine norm_ (a' := ?_) ?_ ?_
        rotate_left
        ·show Act.put _ (some 40) _ = _
         simp only [Act.put, z1, z2, z3, i64_w, i32_w]
         rfl
        refine pu 5 (some 35) (v := ?_) (a' := ?_) #[true, true, true, true, true, true, false, false, true, false, false] rfl rfl HT_ (fun _ _ _ h => h) (by rfl) ?_ ?_ ?_
        rotate_left
        ·intro w'
         go_simp
         with_reducible rfl
        rotate_left
        ·simp only [Act.put, z1, z2, z3, i64_w, i32_w]
         rfl
        refine pu 6 (some 41) (v := ?_) (a' := ?_) #[true, true, true, true, true, true, true, false, true, false, false] rfl rfl HT_ (fun _ _ _ h => h) (by rfl) ?_ ?_ ?_
        rotate_left
        ·intro w'
         go_simp
         with_reducible rfl
        rotate_left
        ·simp only [Act.put, z1, z2, z3, i64_w, i32_w]
         rfl
        refine pu 7 (some 42) (v := ?_) (a' := ?_) #[true, true, true, true, true, true, true, true, true, false, false] rfl rfl HT_ (fun _ _ _ h => h) (by rfl) ?_ ?_ ?_
        rotate_left
        ·intro w'
         go_simp
         with_reducible rfl
        rotate_left
        ·simp only [Act.put, z1, z2, z3, i64_w, i32_w]
         rfl
        exact norm_ (by simp only [putAll, Act.put, List.setIfInBounds_toArray, List.set_cons_zero, List.set_cons_succ]) (hCont (.slice Ao54 t509.length co54, v514, gb517) _ ⟨hHeld, (by (with_reducible repeat (first | apply Kd.R_alloc | apply Kd.R_drewN | apply Kd.R_drew)); exact Kd.R_mono HO511.out (fun _ hk => ⟨hk.2, hk.1.2⟩)), (by (with_reducible repeat (first | apply Kd.R_alloc | apply Kd.R_drewN | apply Kd.R_drew)); exact Kd.R_mono HO515.out (fun _ hk => ⟨hk.2, hk.1.2⟩)), (by (with_reducible repeat (first | apply Kd.R_alloc | apply Kd.R_drewN | apply Kd.R_drew)); exact Kd.R_mono HO_506001.out (fun _ hk => ⟨hk.1.2, hk.2⟩)), (mb BK497), (mb BK498), (mb BK499), (mb BK505), (mb BK517), GW517.out, GE517.out, NB497_517.out, NB517_497.out, NB498_517.out, NB517_498.out, NB499_517.out, NB517_499.out, NB505_517.out, NB517_505.out, (ms HB)⟩)
       skip
       refine box_step ?hg (N := 9) ?hd (cs := #[.int .i64 0, .slice none 0 0]) (t := 36) ?hr ?_; (case hd => rfl); (case hg => rfl); (case hr => first | (go_simp; done) | (go_simp; rfl))
       intro gb517 hg w52 hbox hb
       replace HO_506001 := rb HO_506001 hb
       have BK517 := Aside0.mk (hbox)
       have GW517 := gw hg HB
       have GE517 := gw hg HB
       replace HB := bs HB hb
       have NB497_517 := nl hg BK497
       have NB517_497 := ng hg BK497
       replace BK497 := bb BK497 hb
       have NB498_517 := nl hg BK498
       have NB517_498 := ng hg BK498
       replace BK498 := bb BK498 hb
       have NB499_517 := nl hg BK499
       have NB517_499 := ng hg BK499
       replace BK499 := bb BK499 hb
       have NB505_517 := nl hg BK505
       have NB517_505 := ng hg BK505
       replace BK505 := bb BK505 hb
       clear hb hbox hg
       refine hK.out _ _ ⟨(c2 BK498).1, (c2 BK498).2, (c2 BK497).1, (c2 BK497).2⟩ (fun hHeld => ?_)
       clear hK K
       refine norm_ (a' := ?_) ?_ ?_
       rotate_left
       ·show Act.put _ (some 9) _ = _
        simp only [Act.put, z1, z2, z3, i64_w, i32_w]
        rfl
       refine one_ (i := 3) (N := some 39) #[true, true, true, true, false, false, false, false, true, false, false] rfl rfl (one_of HT_.out (by kernel_rfl)) (by decide) (fun K hK => ?_)
       refine gs Try.func44 (by kernel_rfl) rfl #[.int .i64 1, .int .i64 a0_0] (by rfl) rfl rfl ?_
       with_reducible refine (spec_ConstLin.calls 1 a0_0 t508 t509 _ A44.out).mono ?_
       rintro e w53 ⟨v510, rfl, ho0, hb⟩
       refine ⟨_, rfl, ?_⟩
       have HO511 := Aside0.mk (Kd.R_lower (Kd.R_new' ho0 (Kd.R_lt (mr HO_506001))) (below_size (ms HB)))
       replace HO_506001 := rl HO_506001 ho0 hb
       replace BK497 := bb BK497 hb
       replace BK498 := bb BK498 hb
       replace BK499 := bb BK499 hb
       replace BK505 := bb BK505 hb
       replace BK517 := bb BK517 hb
       replace HB := bs HB hb
       (try clear hb)
       (try clear hb2)
       (try clear hk)
       (try clear hi)
       (try clear ho0)
       obtain ⟨Ao54, co54, eo54⟩ := Kd.R_slice HO511.out
       (first | subst eo54 | (injection eo54 with f1_ f2_ f3_; have f4_ := f1_.symm; have f5_ := f3_.symm; clear f1_ f2_ f3_; subst f4_; subst f5_))
       refine hK.out _ _ ⟨(c2 BK498).1, (c2 BK498).2, (c2 BK497).1, (c2 BK497).2⟩ (fun hHeld => ?_)
       clear hK K
       refine norm_ (a' := ?_) ?_ ?_
       rotate_left
       ·show Act.put _ (some 39) _ = _
        simp only [Act.put, z1, z2, z3, i64_w, i32_w]
        rfl
       refine one_ (i := 4) (N := some 40) #[true, true, true, true, true, false, false, false, true, false, false] rfl rfl (one_of HT_.out (by kernel_rfl)) (by decide) (fun K hK => ?_)
       refine gs Try.func69 (by kernel_rfl) rfl #[.agg #[.int .i64 a1_0, .slice A1_1 l1_1.length c1_1], .int .i64 1, .agg #[.int .i64 t508, .slice Ao54 t509.length co54]] (by rfl) rfl rfl ?_
       with_reducible refine (spec_AddScaled.calls kj4 a1_0 _ _ l1_1 1 t508 _ _ t509 t512 t513 true _ ?side1 ?side2 ?side3 ?side4 A45.out).mono ?_
       (case side1 => exact mc ((Kd.C_below HR1_1.out HB.out)))
       (case side2 => exact HC1_1.out)
       (case side3 => exact mc ((Kd.R_reads' HO511.out).2.2))
       (case side4 => exact (Kd.R_reads' HO511.out).2.1)
       rintro e w55 ⟨v514, rfl, ho0, hb⟩
       refine ⟨_, rfl, ?_⟩
       have HO515 := Aside0.mk (Kd.R_lower (Kd.R_new' (Kd.R_new' ho0 (Kd.R_lt (mr HO_506001))) (Kd.R_lt (mr HO511))) (below_size (ms HB)))
       replace HO_506001 := rl HO_506001 ho0 hb
       replace HO511 := rl HO511 ho0 hb
       replace BK497 := bb BK497 hb
       replace BK498 := bb BK498 hb
       replace BK499 := bb BK499 hb
       replace BK505 := bb BK505 hb
       replace BK517 := bb BK517 hb
       replace HB := bs HB hb
       (try clear hb)
       (try clear hb2)
       (try clear hk)
       (try clear hi)
       (try clear ho0)
       refine hK.out _ _ ⟨(c2 BK498).1, (c2 BK498).2, (c2 BK497).1, (c2 BK497).2⟩ (fun hHeld => ?_)
       clear hK K
       refine norm_ (a' := ?_) ?_ ?_
       rotate_left
       ·show Act.put _ (some 40) _ = _
        simp only [Act.put, z1, z2, z3, i64_w, i32_w]
        rfl
       refine pu 5 (some 35) (v := ?_) (a' := ?_) #[true, true, true, true, true, true, false, false, true, false, false] rfl rfl HT_ (fun _ _ _ h => h) (by rfl) ?_ ?_ ?_
       rotate_left
       ·intro w'
        go_simp
        with_reducible rfl
       rotate_left
       ·simp only [Act.put, z1, z2, z3, i64_w, i32_w]
        rfl
       refine pu 6 (some 41) (v := ?_) (a' := ?_) #[true, true, true, true, true, true, true, false, true, false, false] rfl rfl HT_ (fun _ _ _ h => h) (by rfl) ?_ ?_ ?_
       rotate_left
       ·intro w'
        go_simp
        with_reducible rfl
       rotate_left
       ·simp only [Act.put, z1, z2, z3, i64_w, i32_w]
        rfl
       refine pu 7 (some 42) (v := ?_) (a' := ?_) #[true, true, true, true, true, true, true, true, true, false, false] rfl rfl HT_ (fun _ _ _ h => h) (by rfl) ?_ ?_ ?_
       rotate_left
       ·intro w'
        go_simp
        with_reducible rfl
       rotate_left
       ·simp only [Act.put, z1, z2, z3, i64_w, i32_w]
        rfl
       exact norm_ (by simp only [putAll, Act.put, List.setIfInBounds_toArray, List.set_cons_zero, List.set_cons_succ]) (hCont (.slice Ao54 t509.length co54, v514, gb517) _ ⟨hHeld, (by (with_reducible repeat (first | apply Kd.R_alloc | apply Kd.R_drewN | apply Kd.R_drew)); exact Kd.R_mono HO511.out (fun _ hk => ⟨hk.2, hk.1.2⟩)), (by (with_reducible repeat (first | apply Kd.R_alloc | apply Kd.R_drewN | apply Kd.R_drew)); exact Kd.R_mono HO515.out (fun _ hk => ⟨hk.2, hk.1.2⟩)), (by (with_reducible repeat (first | apply Kd.R_alloc | apply Kd.R_drewN | apply Kd.R_drew)); exact Kd.R_mono HO_506001.out (fun _ hk => ⟨hk.1.2, hk.2⟩)), (mb BK497), (mb BK498), (mb BK499), (mb BK505), (mb BK517), GW517.out, GE517.out, NB497_517.out, NB517_497.out, NB498_517.out, NB517_498.out, NB499_517.out, NB517_499.out, NB505_517.out, NB517_505.out, (ms HB)⟩)
      rintro ⟨v510, v514, gb517⟩ w56 ⟨hS_, h0_, h1_, h2_, h3_, h4_, h5_, h6_, h7_, h8_, h9_, h10_, h11_, h12_, h13_, h14_, h15_, h16_, h17_, h18_⟩
      have n0_ : Aside0 (Kd.R (Kd.int .i64) 3 w56 w.heap.size (fun k_ => some k_ ≠ (v514 : Value).ownBlock ∧ some k_ ≠ (.slice Ao20 t501.length co20 : Value).ownBlock) v510 t509) := ⟨h0_⟩
      have n1_ : Aside0 (Kd.R (Kd.int .i64) 3 w56 w.heap.size (fun k_ => some k_ ≠ (v510 : Value).ownBlock ∧ some k_ ≠ (.slice Ao20 t501.length co20 : Value).ownBlock) v514 t513) := ⟨h1_⟩
      have n2_ : Aside0 (Kd.R (Kd.int .i64) 3 w56 w.heap.size (fun k_ => some k_ ≠ (v510 : Value).ownBlock ∧ some k_ ≠ (v514 : Value).ownBlock) (.slice Ao20 t501.length co20) t501) := ⟨h2_⟩
      have n3_ : Aside0 (w56.heap[gb497]? = some (.cells #[.int .i64 a0_0, .slice A0_1 l0_1.length c0_1] 33 (0, 0))) := ⟨h3_⟩
      have n4_ : Aside0 (w56.heap[gb498]? = some (.cells #[.int .i64 a1_0, .slice A1_1 l1_1.length c1_1] 36 (0, 0))) := ⟨h4_⟩
      have n5_ : Aside0 (w56.heap[gb499]? = some (.cells #[.int .i64 a2_0, .slice A2_1 l2_1.length c2_1] 38 (0, 0))) := ⟨h5_⟩
      have n6_ : Aside0 (w56.heap[gb505]? = some (.cells #[.int .i64 t500, .slice Ao20 t501.length co20] 36 (0, 0))) := ⟨h6_⟩
      have n7_ : Aside0 (w56.heap[gb517]? = some (.cells #[.int .i64 0, .slice none 0 0] 36 (0, 0))) := ⟨h7_⟩
      have n8_ : Aside0 (w.heap.size ≤ gb517) := ⟨h8_⟩
      have n9_ : Aside0 (w.heap.size ≤ gb517) := ⟨h9_⟩
      have n10_ : Aside0 (gb497 ≠ gb517) := ⟨h10_⟩
      have n11_ : Aside0 (gb517 ≠ gb497) := ⟨h11_⟩
      have n12_ : Aside0 (gb498 ≠ gb517) := ⟨h12_⟩
      have n13_ : Aside0 (gb517 ≠ gb498) := ⟨h13_⟩
      have n14_ : Aside0 (gb499 ≠ gb517) := ⟨h14_⟩
      have n15_ : Aside0 (gb517 ≠ gb499) := ⟨h15_⟩
      have n16_ : Aside0 (gb505 ≠ gb517) := ⟨h16_⟩
      have n17_ : Aside0 (gb517 ≠ gb505) := ⟨h17_⟩
      have n18_ : Aside0 (Below w.heap.size w w56) := ⟨h18_⟩
      clear HO_506001
      clear BK497
      clear BK498
      clear BK499
      clear BK505
      clear HB
      clear h0_ h1_ h2_ h3_ h4_ h5_ h6_ h7_ h8_ h9_ h10_ h11_ h12_ h13_ h14_ h15_ h16_ h17_ h18_
      have HO511 := n0_
      have HO515 := n1_
      have HO_506001 := n2_
      have BK497 := n3_
      have BK498 := n4_
      have BK499 := n5_
      have BK505 := n6_
      have BK517 := n7_
      have GW517 := n8_
      have GE517 := n9_
      have NB497_517 := n10_
      have NB517_497 := n11_
      have NB498_517 := n12_
      have NB517_498 := n13_
      have NB499_517 := n14_
      have NB517_499 := n15_
      have NB505_517 := n16_
      have NB517_505 := n17_
      have HB := n18_
      clear n0_ n1_ n2_ n3_ n4_ n5_ n6_ n7_ n8_ n9_ n10_ n11_ n12_ n13_ n14_ n15_ n16_ n17_ n18_
      have hHeld : w56.cell? ⟨gb498, 0, none⟩ = some (.int .i64 a1_0) ∧ w56.cell? ⟨gb498, 1, none⟩ = some (.slice A1_1 l1_1.length c1_1) ∧ w56.cell? ⟨gb497, 0, none⟩ = some (.int .i64 a0_0) ∧ w56.cell? ⟨gb497, 1, none⟩ = some (.slice A0_1 l0_1.length c0_1) := hS_
      obtain ⟨Ao58, co58, eo58⟩ := Kd.R_slice HO515.out
      (first | subst eo58 | (injection eo58 with f1_ f2_ f3_; have f4_ := f1_.symm; have f5_ := f3_.symm; clear f1_ f2_ f3_; subst f4_; subst f5_))
      refine norm_ (a' := ?_) ?_ ?_
      rotate_left
      ·simp only [putAll, Act.put, List.setIfInBounds_toArray, List.set_cons_zero, List.set_cons_succ]
       rfl
      refine one_ (i := 9) (N := none) #[true, true, true, true, true, true, true, true, true, true, false] rfl rfl (one_of HT_.out (by kernel_rfl)) (by decide) (fun K hK => ?_)
      have hs57 : w56.cell? ⟨gb517, 0, none⟩ = some (.int .i64 0) := (blk_cell BK517.out 0).trans rfl
      have hfs57 := blk_frozen BK517.out 0
      have hns57_0 := NB497_517.out
      have hns57_1 := NB498_517.out
      have hns57_2 := NB499_517.out
      have hns57_3 := NB505_517.out
      have hms57_0 := NB517_497.out
      have hms57_1 := NB517_498.out
      have hms57_2 := NB517_499.out
      have hms57_3 := NB517_505.out
      have hs59 : w56.cell? ⟨gb517, 1, none⟩ = some (.slice none 0 0) := (blk_cell BK517.out 1).trans rfl
      have hfs59 := blk_frozen BK517.out 1
      have hns59_0 := NB497_517.out
      have hns59_1 := NB498_517.out
      have hns59_2 := NB499_517.out
      have hns59_3 := NB505_517.out
      have hms59_0 := NB517_497.out
      have hms59_1 := NB517_498.out
      have hms59_2 := NB517_499.out
      have hms59_3 := NB517_505.out
      refine skip_ (w1 := ?_) (by rfl) rfl ?_ ?_
      rotate_left
      ·go_simp
       rfl
      refine hK.out _ _ ⟨((cell_far (p := ⟨gb517, _, none⟩) NB498_517.out _).trans (((cell_far (p := ⟨gb517, _, none⟩) NB498_517.out _).trans (hHeld.1)))), ((cell_far (p := ⟨gb517, _, none⟩) NB498_517.out _).trans (((cell_far (p := ⟨gb517, _, none⟩) NB498_517.out _).trans (hHeld.2.1)))), ((cell_far (p := ⟨gb517, _, none⟩) NB497_517.out _).trans (((cell_far (p := ⟨gb517, _, none⟩) NB497_517.out _).trans (hHeld.2.2.1)))), ((cell_far (p := ⟨gb517, _, none⟩) NB497_517.out _).trans (((cell_far (p := ⟨gb517, _, none⟩) NB497_517.out _).trans (hHeld.2.2.2))))⟩ (fun hHeld => ?_)
      clear hK K
      refine pu 10 (some 10) (v := ?_) (a' := ?_) #[true, true, true, true, true, true, true, true, true, true, true] rfl rfl HT_ (fun _ _ _ h => h) (by rfl) ?_ ?_ ?_
      rotate_left
      ·intro w'
       go_simp
       with_reducible rfl
      rotate_left
      ·simp only [Act.put, z1, z2, z3, i64_w, i32_w]
       rfl
      refine done_ (done_of HT_.out (by kernel_rfl)) ?_
      have := NB505_497.out
      have := NB497_505.out
      have := NB505_498.out
      have := NB498_505.out
      have := NB505_499.out
      have := NB499_505.out
      have := NB505_517.out
      have := NB517_505.out
      obtain ⟨_, _, _, _⟩ := cFour BK505
      have := NB499_497.out
      have := NB497_499.out
      have := NB499_498.out
      have := NB498_499.out
      have := NB499_517.out
      have := NB517_499.out
      obtain ⟨_, _, _, _⟩ := cFour BK499
      have := NB517_497.out
      have := NB497_517.out
      have := NB517_498.out
      have := NB498_517.out
      obtain ⟨_, _, _, _⟩ := cFour BK517
      try go_wp2_with (first | ((with_reducible refine gate_callee (f := 69) rfl ?_); refine gl (some 49) rfl rfl Try.func69 (by kernel_rfl) rfl #[.agg #[.int .i64 t500, .slice Ao20 t501.length co20], .int .i64 (wrap64 (-a2_0)), .agg #[.int .i64 t512, .slice Ao58 t513.length co58]] rfl ?_; (with_reducible refine (spec_AddScaled.calls kj4 t500 _ _ t501 (wrap64 (-a2_0)) t512 _ _ t513 t518 t519 true _ ?side1 ?side2 ?side3 ?side4 A46.out).mono ?_); (case side1 => refine (Kd.R_reads' (e := 3) (base := w.heap.size) (ok := fun k_ => (some k_ ≠ (v510 : Value).ownBlock ∧ some k_ ≠ (.slice Ao58 t513.length co58 : Value).ownBlock)) (n := t501.length) (c := co20) ?_).2.2; exact (by (with_reducible repeat (first | apply Kd.R_alloc | apply Kd.R_drewN | apply Kd.R_drew)); exact (rTwo HO_506001 BK517))); (case side2 => exact (Kd.R_reads' HO_506001.out).2.1); (case side3 => refine (Kd.R_reads' (e := 3) (base := w.heap.size) (ok := fun k_ => (some k_ ≠ (v510 : Value).ownBlock ∧ some k_ ≠ (.slice Ao20 t501.length co20 : Value).ownBlock)) (n := t513.length) (c := co58) ?_).2.2; exact (by (with_reducible repeat (first | apply Kd.R_alloc | apply Kd.R_drewN | apply Kd.R_drew)); exact (rTwo HO515 BK517))); (case side4 => exact (Kd.R_reads' HO515.out).2.1); rintro e w72 ⟨v520, rfl, ho0, hb⟩; refine ⟨_, rfl, ?_⟩; have n0_ := Aside0.mk (Kd.R_elder' (by (with_reducible repeat (first | apply Kd.R_alloc | apply Kd.R_drewN | apply Kd.R_drew)); exact (rTwo HO_506001 BK517)) (Kd.R_base ho0) hb); have n1_ := Aside0.mk (Kd.R_elder' (by (with_reducible repeat (first | apply Kd.R_alloc | apply Kd.R_drewN | apply Kd.R_drew)); exact (rTwo HO511 BK517)) (Kd.R_base ho0) hb); have n2_ := Aside0.mk (Kd.R_elder' (by (with_reducible repeat (first | apply Kd.R_alloc | apply Kd.R_drewN | apply Kd.R_drew)); exact (rTwo HO515 BK517)) (Kd.R_base ho0) hb); have n3_ := Aside0.mk (Kd.R_lower (Kd.R_new' (Kd.R_new' (Kd.R_new' ho0 (Kd.R_lt (by (with_reducible repeat (first | apply Kd.R_alloc | apply Kd.R_drewN | apply Kd.R_drew)); exact (rTwo HO_506001 BK517)))) (Kd.R_lt (by (with_reducible repeat (first | apply Kd.R_alloc | apply Kd.R_drewN | apply Kd.R_drew)); exact (rTwo HO511 BK517)))) (Kd.R_lt (by (with_reducible repeat (first | apply Kd.R_alloc | apply Kd.R_drewN | apply Kd.R_drew)); exact (rTwo HO515 BK517)))) (below_size (ms HB))); have n4_ := bf BK497 hb; have n5_ := bf BK498 hb; have n6_ := bf BK499 hb; have n7_ := bf BK505 hb; have n8_ := bp BK517 hb; have n9_ := bs HB hb; clear HO_506001 HO511 HO515 BK497 BK498 BK499 BK505 BK517 HB; have HO_506001 := n0_; have HO511 := n1_; have HO515 := n2_; have HO521 := n3_; have BK497 := n4_; have BK498 := n5_; have BK499 := n6_; have BK505 := n7_; have BK517 := n8_; have HB := n9_; clear n0_ n1_ n2_ n3_ n4_ n5_ n6_ n7_ n8_ n9_; (try clear hb); (try clear ho0)) | ((with_reducible refine gate_dst (N := 11) rfl ?_); refine box_event ?hg (N := 11) ?hd (cs := #[.int .i64 0, .slice none 0 0]) (t := 36) ?hr ?_; (case hd => rfl); (case hg => rfl); (case hr => first | (go_simp; done) | (go_simp; rfl)); intro gb523 hg w73 hbox hb; replace HO_506001 := rb HO_506001 hb; replace HO511 := rb HO511 hb; replace HO515 := rb HO515 hb; replace HO521 := rb HO521 hb; have BK523 := Aside0.mk (hbox); have GW523 := gw hg HB; have GE523 := gw hg HB; replace HB := bs HB hb; have NB497_523 := nl hg BK497; have NB523_497 := ng hg BK497; replace BK497 := bb BK497 hb; have NB498_523 := nl hg BK498; have NB523_498 := ng hg BK498; replace BK498 := bb BK498 hb; have NB499_523 := nl hg BK499; have NB523_499 := ng hg BK499; replace BK499 := bb BK499 hb; have NB505_523 := nl hg BK505; have NB523_505 := ng hg BK505; replace BK505 := bb BK505 hb; have NB517_523 := nl hg BK517; have NB523_517 := ng hg BK517; replace BK517 := bb BK517 hb; clear hb hbox hg; have := NB523_497.out; have := NB497_523.out; have := NB523_498.out; have := NB498_523.out; have := NB523_499.out; have := NB499_523.out; have := NB523_505.out; have := NB505_523.out; have := NB523_517.out; have := NB517_523.out; obtain ⟨_, _, _, _⟩ := cFour BK523; obtain ⟨Ao80, co80, eo80⟩ := Kd.R_slice HO521.out; subst eo80) | (go_at_call 70; (with_reducible refine (spec_IsConstant.calls kj4 t518 _ _ t519 true _ ?side1 ?side2 A49.out).mono ?_); (case side1 => refine (Kd.R_reads' (e := 3) (base := w.heap.size) (ok := fun k_ => (((True ∧ some k_ ≠ (.slice Ao20 t501.length co20 : Value).ownBlock) ∧ some k_ ≠ (v510 : Value).ownBlock) ∧ some k_ ≠ (.slice Ao58 t513.length co58 : Value).ownBlock)) (n := t519.length) (c := co80) ?_).2.2; exact (by (with_reducible repeat (first | apply Kd.R_alloc | apply Kd.R_drewN | apply Kd.R_drew)); exact (rTwo HO521 BK523))); (case side2 => exact (Kd.R_reads' HO521.out).2.1); rintro e w81 ⟨rfl, hb⟩; have n0_ := Aside0.mk (Kd.R_below (by (with_reducible repeat (first | apply Kd.R_alloc | apply Kd.R_drewN | apply Kd.R_drew)); exact (rTwo HO_506001 BK523)) hb); have n1_ := Aside0.mk (Kd.R_below (by (with_reducible repeat (first | apply Kd.R_alloc | apply Kd.R_drewN | apply Kd.R_drew)); exact (rTwo HO511 BK523)) hb); have n2_ := Aside0.mk (Kd.R_below (by (with_reducible repeat (first | apply Kd.R_alloc | apply Kd.R_drewN | apply Kd.R_drew)); exact (rTwo HO515 BK523)) hb); have n3_ := Aside0.mk (Kd.R_below (by (with_reducible repeat (first | apply Kd.R_alloc | apply Kd.R_drewN | apply Kd.R_drew)); exact (rTwo HO521 BK523)) hb); have n4_ := bf BK497 hb; have n5_ := bf BK498 hb; have n6_ := bf BK499 hb; have n7_ := bf BK505 hb; have n8_ := bf BK517 hb; have n9_ := bp BK523 hb; have n10_ := bs HB hb; clear HO_506001 HO511 HO515 HO521 BK497 BK498 BK499 BK505 BK517 BK523 HB; have HO_506001 := n0_; have HO511 := n1_; have HO515 := n2_; have HO521 := n3_; have BK497 := n4_; have BK498 := n5_; have BK499 := n6_; have BK505 := n7_; have BK517 := n8_; have BK523 := n9_; have HB := n10_; clear n0_ n1_ n2_ n3_ n4_ n5_ n6_ n7_ n8_ n9_ n10_; (try clear hb); obtain ⟨_, _, _, _⟩ := cFour BK523))
      go_ret
      exact ⟨by first | rfl | (simp [errW_none, errW_some] <;> rfl) | (simp [*, errW_none, errW_some] <;> rfl), ms HB⟩
     replace c50 := Bool.eq_false_iff.mpr c50
     subst c50
     have H1 : (some false) = some r := by rw [if_neg (show ¬ (false = true) by decide)] at H; exact H
     clear H
     have H := H1
     clear H1
     obtain rfl := Option.some.inj H
     try go_wp2
     replace HO_506001 := Aside0.mk (Kd.R_drew HO_506001.out)
     replace BK497 := Aside0.mk (blk_drew BK497.out)
     replace BK498 := Aside0.mk (blk_drew BK498.out)
     replace BK499 := Aside0.mk (blk_drew BK499.out)
     replace BK505 := Aside0.mk (blk_drew BK505.out)
     replace HB := Aside0.mk (below_drew1 HB.out)
     refine start_ (n := 11) (S := fun w' => w'.cell? ⟨gb498, 0, none⟩ = some (.int .i64 a1_0) ∧ w'.cell? ⟨gb498, 1, none⟩ = some (.slice A1_1 l1_1.length c1_1) ∧ w'.cell? ⟨gb497, 0, none⟩ = some (.int .i64 a0_0) ∧ w'.cell? ⟨gb497, 1, none⟩ = some (.slice A0_1 l0_1.length c0_1)) (ds := []) #[false, false, false, false, false, false, false, false, false, false, false] (by kernel_rfl) rfl rfl ⟨(c2 BK498).1, (c2 BK498).2, (c2 BK497).1, (c2 BK497).2⟩ (fun hHeld => ?_); refine with_tabW spec_CheckFarkas.tab4 spec_CheckFarkas.bits4 (fun HT_ HW_ => ?_)
     generalize wc.drew = w83 at HO_506001 BK497 BK498 BK499 BK505 HB hHeld ⊢
     refine pu 1 (some 37) (v := ?_) (a' := ?_) #[false, true, false, false, false, false, false, false, false, false, false] rfl rfl HT_ (fun _ _ _ h => h) (by rfl) ?_ ?_ ?_
     rotate_left
     ·intro w'
      go_simp
      with_reducible rfl
     rotate_left
     ·simp only [Act.put, z1, z2, z3, i64_w, i32_w]
      rfl
     refine tk 0 (some 36) (v := ?_) (a' := ?_) #[true, true, false, false, false, false, false, false, false, false, false] rfl rfl HT_ HW_ (fun _ _ _ h => h) (by rfl) ?_ hHeld ?_ ?_
     rotate_left
     ·rintro w' ⟨s0, s1, s2, s3⟩
      go_simp
      with_reducible rfl
     rotate_left
     ·simp only [Act.put, z1, z2, z3, i64_w, i32_w]
      rfl
     refine tk 2 (some 38) (v := ?_) (a' := ?_) #[true, true, true, false, false, false, false, false, false, false, false] rfl rfl HT_ HW_ (fun _ _ _ h => h) (by rfl) ?_ hHeld ?_ ?_
     rotate_left
     ·rintro w' ⟨s0, s1, s2, s3⟩
      go_simp
      with_reducible rfl
     rotate_left
     ·simp only [Act.put, z1, z2, z3, i64_w, i32_w]
      rfl
     refine join_ (σ := Value × Value × Nat) 2 #[true, true, true, true, true, true, true, true, true, false, false] (fun s_ => [(39, .agg #[.int .i64 t508, s_.1]), (40, .tuple #[.agg #[.int .i64 t512, s_.2.1], .bool true]), (9, .pointer (some ⟨s_.2.2, 0, none⟩)), (35, .tuple #[.agg #[.int .i64 t512, s_.2.1], .bool true]), (41, .agg #[.int .i64 t512, s_.2.1]), (42, .bool true)]) (fun s_ w' => (w'.cell? ⟨gb498, 0, none⟩ = some (.int .i64 a1_0) ∧ w'.cell? ⟨gb498, 1, none⟩ = some (.slice A1_1 l1_1.length c1_1) ∧ w'.cell? ⟨gb497, 0, none⟩ = some (.int .i64 a0_0) ∧ w'.cell? ⟨gb497, 1, none⟩ = some (.slice A0_1 l0_1.length c0_1)) ∧ (Kd.R (Kd.int .i64) 3 w' w.heap.size (fun k_ => some k_ ≠ (s_.2.1 : Value).ownBlock ∧ some k_ ≠ (.slice Ao20 t501.length co20 : Value).ownBlock) s_.1 t509) ∧ (Kd.R (Kd.int .i64) 3 w' w.heap.size (fun k_ => some k_ ≠ (s_.1 : Value).ownBlock ∧ some k_ ≠ (.slice Ao20 t501.length co20 : Value).ownBlock) s_.2.1 t513) ∧ (Kd.R (Kd.int .i64) 3 w' w.heap.size (fun k_ => some k_ ≠ (s_.1 : Value).ownBlock ∧ some k_ ≠ (s_.2.1 : Value).ownBlock) (.slice Ao20 t501.length co20) t501) ∧ (w'.heap[gb497]? = some (.cells #[.int .i64 a0_0, .slice A0_1 l0_1.length c0_1] 33 (0, 0))) ∧ (w'.heap[gb498]? = some (.cells #[.int .i64 a1_0, .slice A1_1 l1_1.length c1_1] 36 (0, 0))) ∧ (w'.heap[gb499]? = some (.cells #[.int .i64 a2_0, .slice A2_1 l2_1.length c2_1] 38 (0, 0))) ∧ (w'.heap[gb505]? = some (.cells #[.int .i64 t500, .slice Ao20 t501.length co20] 36 (0, 0))) ∧ (w'.heap[s_.2.2]? = some (.cells #[.int .i64 0, .slice none 0 0] 36 (0, 0))) ∧ (w.heap.size ≤ s_.2.2) ∧ (w.heap.size ≤ s_.2.2) ∧ (gb497 ≠ s_.2.2) ∧ (s_.2.2 ≠ gb497) ∧ (gb498 ≠ s_.2.2) ∧ (s_.2.2 ≠ gb498) ∧ (gb499 ≠ s_.2.2) ∧ (s_.2.2 ≠ gb499) ∧ (gb505 ≠ s_.2.2) ∧ (s_.2.2 ≠ gb505) ∧ (Below w.heap.size w w')) ?_ ?_
     rotate_left
     ·intro hCont
      refine two_ (i := 3) (j := 8) (Ni := some 39) (Nj := some 9) #[true, true, true, true, false, false, false, false, false, false, false] #[true, true, true, false, false, false, false, false, true, false, false] rfl rfl rfl rfl (two_of HT_.out (by kernel_rfl)) (by decide) (by decide) (fun K hK => ?_) (fun K hK => ?_)
      ·skip
       refine gs Try.func44 (by kernel_rfl) rfl #[.int .i64 1, .int .i64 a0_0] (by rfl) rfl rfl ?_
       with_reducible refine (spec_ConstLin.calls 1 a0_0 t508 t509 _ A44.out).mono ?_
       rintro e w84 ⟨v510, rfl, ho0, hb⟩
       refine ⟨_, rfl, ?_⟩
       have HO511 := Aside0.mk (Kd.R_lower (Kd.R_new' ho0 (Kd.R_lt (mr HO_506001))) (below_size (ms HB)))
       replace HO_506001 := rl HO_506001 ho0 hb
       replace BK497 := bb BK497 hb
       replace BK498 := bb BK498 hb
       replace BK499 := bb BK499 hb
       replace BK505 := bb BK505 hb
       replace HB := bs HB hb
       (try clear hb)
       (try clear hb2)
       (try clear hk)
       (try clear hi)
       (try clear ho0)
       obtain ⟨Ao85, co85, eo85⟩ := Kd.R_slice HO511.out
       (first | subst eo85 | (injection eo85 with f1_ f2_ f3_; have f4_ := f1_.symm; have f5_ := f3_.symm; clear f1_ f2_ f3_; subst f4_; subst f5_))
       refine hK.out _ _ ⟨(c2 BK498).1, (c2 BK498).2, (c2 BK497).1, (c2 BK497).2⟩ (fun hHeld => ?_)
       clear hK K
       refine norm_ (a' := ?_) ?_ ?_
       rotate_left
       ·show Act.put _ (some 39) _ = _
        simp only [Act.put, z1, z2, z3, i64_w, i32_w]
        rfl
       refine two_ (i := 4) (j := 8) (Ni := some 40) (Nj := some 9) #[true, true, true, true, true, false, false, false, false, false, false] #[true, true, true, true, false, false, false, false, true, false, false] rfl rfl rfl rfl (two_of HT_.out (by kernel_rfl)) (by decide) (by decide) (fun K hK => ?_) (fun K hK => ?_)
       ·skip
        refine gs Try.func69 (by kernel_rfl) rfl #[.agg #[.int .i64 a1_0, .slice A1_1 l1_1.length c1_1], .int .i64 1, .agg #[.int .i64 t508, .slice Ao85 t509.length co85]] (by rfl) rfl rfl ?_
        with_reducible refine (spec_AddScaled.calls kj4 a1_0 _ _ l1_1 1 t508 _ _ t509 t512 t513 true _ ?side1 ?side2 ?side3 ?side4 A45.out).mono ?_
        (case side1 => exact mc ((Kd.C_below HR1_1.out HB.out)))
        (case side2 => exact HC1_1.out)
        (case side3 => exact mc ((Kd.R_reads' HO511.out).2.2))
        (case side4 => exact (Kd.R_reads' HO511.out).2.1)
        rintro e w86 ⟨v514, rfl, ho0, hb⟩
        refine ⟨_, rfl, ?_⟩
        have HO515 := Aside0.mk (Kd.R_lower (Kd.R_new' (Kd.R_new' ho0 (Kd.R_lt (mr HO_506001))) (Kd.R_lt (mr HO511))) (below_size (ms HB)))
        replace HO_506001 := rl HO_506001 ho0 hb
        replace HO511 := rl HO511 ho0 hb
        replace BK497 := bb BK497 hb
        replace BK498 := bb BK498 hb
        replace BK499 := bb BK499 hb
        replace BK505 := bb BK505 hb
        replace HB := bs HB hb
        (try clear hb)
        (try clear hb2)
        (try clear hk)
        (try clear hi)
        (try clear ho0)
        refine hK.out _ _ ⟨(c2 BK498).1, (c2 BK498).2, (c2 BK497).1, (c2 BK497).2⟩ (fun hHeld => ?_)
        clear hK K
        refine norm_ (a' := ?_) ?_ ?_
        rotate_left
        ·show Act.put _ (some 40) _ = _
         simp only [Act.put, z1, z2, z3, i64_w, i32_w]
         rfl
        refine pu 5 (some 35) (v := ?_) (a' := ?_) #[true, true, true, true, true, true, false, false, false, false, false] rfl rfl HT_ (fun _ _ _ h => h) (by rfl) ?_ ?_ ?_
        rotate_left
        ·intro w'
         go_simp
         with_reducible rfl
        rotate_left
        ·simp only [Act.put, z1, z2, z3, i64_w, i32_w]
         rfl
        refine pu 6 (some 41) (v := ?_) (a' := ?_) #[true, true, true, true, true, true, true, false, false, false, false] rfl rfl HT_ (fun _ _ _ h => h) (by rfl) ?_ ?_ ?_
        rotate_left
        ·intro w'
         go_simp
         with_reducible rfl
        rotate_left
        ·simp only [Act.put, z1, z2, z3, i64_w, i32_w]
         rfl
        refine pu 7 (some 42) (v := ?_) (a' := ?_) #[true, true, true, true, true, true, true, true, false, false, false] rfl rfl HT_ (fun _ _ _ h => h) (by rfl) ?_ ?_ ?_
        rotate_left
        ·intro w'
         go_simp
         with_reducible rfl
        rotate_left
        ·simp only [Act.put, z1, z2, z3, i64_w, i32_w]
         rfl
        refine one_ (i := 8) (N := some 9) #[true, true, true, true, true, true, true, true, true, false, false] rfl rfl (one_of HT_.out (by kernel_rfl)) (by decide) (fun K hK => ?_)
        refine box_step ?hg (N := 9) ?hd (cs := #[.int .i64 0, .slice none 0 0]) (t := 36) ?hr ?_; (case hd => rfl); (case hg => rfl); (case hr => first | (go_simp; done) | (go_simp; rfl))
        intro gb517 hg w87 hbox hb
        replace HO_506001 := rb HO_506001 hb
        replace HO511 := rb HO511 hb
        replace HO515 := rb HO515 hb
        have BK517 := Aside0.mk (hbox)
        have GW517 := gw hg HB
        have GE517 := gw hg HB
        replace HB := bs HB hb
        have NB497_517 := nl hg BK497
        have NB517_497 := ng hg BK497
        replace BK497 := bb BK497 hb
        have NB498_517 := nl hg BK498
        have NB517_498 := ng hg BK498
        replace BK498 := bb BK498 hb
        have NB499_517 := nl hg BK499
        have NB517_499 := ng hg BK499
        replace BK499 := bb BK499 hb
        have NB505_517 := nl hg BK505
        have NB517_505 := ng hg BK505
        replace BK505 := bb BK505 hb
        clear hb hbox hg
        refine hK.out _ _ ⟨(c2 BK498).1, (c2 BK498).2, (c2 BK497).1, (c2 BK497).2⟩ (fun hHeld => ?_)
        clear hK K
        refine norm_ (a' := ?_) ?_ ?_
        rotate_left
        ·show Act.put _ (some 9) _ = _
         simp only [Act.put, z1, z2, z3, i64_w, i32_w]
         rfl
        exact norm_ (by simp only [putAll, Act.put, List.setIfInBounds_toArray, List.set_cons_zero, List.set_cons_succ]) (hCont (.slice Ao85 t509.length co85, v514, gb517) _ ⟨hHeld, (by (with_reducible repeat (first | apply Kd.R_alloc | apply Kd.R_drewN | apply Kd.R_drew)); exact Kd.R_mono HO511.out (fun _ hk => ⟨hk.2, hk.1.2⟩)), (by (with_reducible repeat (first | apply Kd.R_alloc | apply Kd.R_drewN | apply Kd.R_drew)); exact Kd.R_mono HO515.out (fun _ hk => ⟨hk.2, hk.1.2⟩)), (by (with_reducible repeat (first | apply Kd.R_alloc | apply Kd.R_drewN | apply Kd.R_drew)); exact Kd.R_mono HO_506001.out (fun _ hk => ⟨hk.1.2, hk.2⟩)), (mb BK497), (mb BK498), (mb BK499), (mb BK505), (mb BK517), GW517.out, GE517.out, NB497_517.out, NB517_497.out, NB498_517.out, NB517_498.out, NB499_517.out, NB517_499.out, NB505_517.out, NB517_505.out, (ms HB)⟩)
       skip
       refine box_step ?hg (N := 9) ?hd (cs := #[.int .i64 0, .slice none 0 0]) (t := 36) ?hr ?_; (case hd => rfl); (case hg => rfl); (case hr => first | (go_simp; done) | (go_simp; rfl))
       intro gb517 hg w85 hbox hb
       replace HO_506001 := rb HO_506001 hb
       replace HO511 := rb HO511 hb
       have BK517 := Aside0.mk (hbox)
       have GW517 := gw hg HB
       have GE517 := gw hg HB
       replace HB := bs HB hb
       have NB497_517 := nl hg BK497
       have NB517_497 := ng hg BK497
       replace BK497 := bb BK497 hb
       have NB498_517 := nl hg BK498
       have NB517_498 := ng hg BK498
       replace BK498 := bb BK498 hb
       have NB499_517 := nl hg BK499
       have NB517_499 := ng hg BK499
       replace BK499 := bb BK499 hb
       have NB505_517 := nl hg BK505
       have NB517_505 := ng hg BK505
       replace BK505 := bb BK505 hb
       clear hb hbox hg
       obtain ⟨Ao86, co86, eo86⟩ := Kd.R_slice HO511.out
       (first | subst eo86 | (injection eo86 with f1_ f2_ f3_; have f4_ := f1_.symm; have f5_ := f3_.symm; clear f1_ f2_ f3_; subst f4_; subst f5_))
       refine hK.out _ _ ⟨(c2 BK498).1, (c2 BK498).2, (c2 BK497).1, (c2 BK497).2⟩ (fun hHeld => ?_)
       clear hK K
       refine norm_ (a' := ?_) ?_ ?_
       rotate_left
       ·show Act.put _ (some 9) _ = _
        simp only [Act.put, z1, z2, z3, i64_w, i32_w]
        rfl
       refine one_ (i := 4) (N := some 40) #[true, true, true, true, true, false, false, false, true, false, false] rfl rfl (one_of HT_.out (by kernel_rfl)) (by decide) (fun K hK => ?_)
       refine gs Try.func69 (by kernel_rfl) rfl #[.agg #[.int .i64 a1_0, .slice A1_1 l1_1.length c1_1], .int .i64 1, .agg #[.int .i64 t508, .slice Ao86 t509.length co86]] (by rfl) rfl rfl ?_
       with_reducible refine (spec_AddScaled.calls kj4 a1_0 _ _ l1_1 1 t508 _ _ t509 t512 t513 true _ ?side1 ?side2 ?side3 ?side4 A45.out).mono ?_
       (case side1 => exact mc ((Kd.C_below HR1_1.out HB.out)))
       (case side2 => exact HC1_1.out)
       (case side3 => exact mc ((Kd.R_reads' HO511.out).2.2))
       (case side4 => exact (Kd.R_reads' HO511.out).2.1)
       rintro e w87 ⟨v514, rfl, ho0, hb⟩
       refine ⟨_, rfl, ?_⟩
       have HO515 := Aside0.mk (Kd.R_lower (Kd.R_new' (Kd.R_new' ho0 (Kd.R_lt (mr HO_506001))) (Kd.R_lt (mr HO511))) (below_size (ms HB)))
       replace HO_506001 := rl HO_506001 ho0 hb
       replace HO511 := rl HO511 ho0 hb
       replace BK497 := bb BK497 hb
       replace BK498 := bb BK498 hb
       replace BK499 := bb BK499 hb
       replace BK505 := bb BK505 hb
       replace BK517 := bb BK517 hb
       replace HB := bs HB hb
       (try clear hb)
       (try clear hb2)
       (try clear hk)
       (try clear hi)
       (try clear ho0)
       refine hK.out _ _ ⟨(c2 BK498).1, (c2 BK498).2, (c2 BK497).1, (c2 BK497).2⟩ (fun hHeld => ?_)
       clear hK K
       refine norm_ (a' := ?_) ?_ ?_
       rotate_left
       ·show Act.put _ (some 40) _ = _
        simp only [Act.put, z1, z2, z3, i64_w, i32_w]
        rfl
       refine pu 5 (some 35) (v := ?_) (a' := ?_) #[true, true, true, true, true, true, false, false, true, false, false] rfl rfl HT_ (fun _ _ _ h => h) (by rfl) ?_ ?_ ?_
       rotate_left
       ·intro w'
        go_simp
        with_reducible rfl
       rotate_left
       ·simp only [Act.put, z1, z2, z3, i64_w, i32_w]
        rfl
       refine pu 6 (some 41) (v := ?_) (a' := ?_) #[true, true, true, true, true, true, true, false, true, false, false] rfl rfl HT_ (fun _ _ _ h => h) (by rfl) ?_ ?_ ?_
       rotate_left
       ·intro w'
        go_simp
        with_reducible rfl
       rotate_left
       ·simp only [Act.put, z1, z2, z3, i64_w, i32_w]
        rfl
       refine pu 7 (some 42) (v := ?_) (a' := ?_) #[true, true, true, true, true, true, true, true, true, false, false] rfl rfl HT_ (fun _ _ _ h => h) (by rfl) ?_ ?_ ?_
       rotate_left
       ·intro w'
        go_simp
        with_reducible rfl
       rotate_left
       ·simp only [Act.put, z1, z2, z3, i64_w, i32_w]
        rfl
       exact norm_ (by simp only [putAll, Act.put, List.setIfInBounds_toArray, List.set_cons_zero, List.set_cons_succ]) (hCont (.slice Ao86 t509.length co86, v514, gb517) _ ⟨hHeld, (by (with_reducible repeat (first | apply Kd.R_alloc | apply Kd.R_drewN | apply Kd.R_drew)); exact Kd.R_mono HO511.out (fun _ hk => ⟨hk.2, hk.1.2⟩)), (by (with_reducible repeat (first | apply Kd.R_alloc | apply Kd.R_drewN | apply Kd.R_drew)); exact Kd.R_mono HO515.out (fun _ hk => ⟨hk.2, hk.1.2⟩)), (by (with_reducible repeat (first | apply Kd.R_alloc | apply Kd.R_drewN | apply Kd.R_drew)); exact Kd.R_mono HO_506001.out (fun _ hk => ⟨hk.1.2, hk.2⟩)), (mb BK497), (mb BK498), (mb BK499), (mb BK505), (mb BK517), GW517.out, GE517.out, NB497_517.out, NB517_497.out, NB498_517.out, NB517_498.out, NB499_517.out, NB517_499.out, NB505_517.out, NB517_505.out, (ms HB)⟩)
      skip
      refine box_step ?hg (N := 9) ?hd (cs := #[.int .i64 0, .slice none 0 0]) (t := 36) ?hr ?_; (case hd => rfl); (case hg => rfl); (case hr => first | (go_simp; done) | (go_simp; rfl))
      intro gb517 hg w84 hbox hb
      replace HO_506001 := rb HO_506001 hb
      have BK517 := Aside0.mk (hbox)
      have GW517 := gw hg HB
      have GE517 := gw hg HB
      replace HB := bs HB hb
      have NB497_517 := nl hg BK497
      have NB517_497 := ng hg BK497
      replace BK497 := bb BK497 hb
      have NB498_517 := nl hg BK498
      have NB517_498 := ng hg BK498
      replace BK498 := bb BK498 hb
      have NB499_517 := nl hg BK499
      have NB517_499 := ng hg BK499
      replace BK499 := bb BK499 hb
      have NB505_517 := nl hg BK505
      have NB517_505 := ng hg BK505
      replace BK505 := bb BK505 hb
      clear hb hbox hg
      refine hK.out _ _ ⟨(c2 BK498).1, (c2 BK498).2, (c2 BK497).1, (c2 BK497).2⟩ (fun hHeld => ?_)
      clear hK K
      refine norm_ (a' := ?_) ?_ ?_
      rotate_left
      ·show Act.put _ (some 9) _ = _
       simp only [Act.put, z1, z2, z3, i64_w, i32_w]
       rfl
      refine one_ (i := 3) (N := some 39) #[true, true, true, true, false, false, false, false, true, false, false] rfl rfl (one_of HT_.out (by kernel_rfl)) (by decide) (fun K hK => ?_)
      refine gs Try.func44 (by kernel_rfl) rfl #[.int .i64 1, .int .i64 a0_0] (by rfl) rfl rfl ?_
      with_reducible refine (spec_ConstLin.calls 1 a0_0 t508 t509 _ A44.out).mono ?_
      rintro e w85 ⟨v510, rfl, ho0, hb⟩
      refine ⟨_, rfl, ?_⟩
      have HO511 := Aside0.mk (Kd.R_lower (Kd.R_new' ho0 (Kd.R_lt (mr HO_506001))) (below_size (ms HB)))
      replace HO_506001 := rl HO_506001 ho0 hb
      replace BK497 := bb BK497 hb
      replace BK498 := bb BK498 hb
      replace BK499 := bb BK499 hb
      replace BK505 := bb BK505 hb
      replace BK517 := bb BK517 hb
      replace HB := bs HB hb
      (try clear hb)
      (try clear hb2)
      (try clear hk)
      (try clear hi)
      (try clear ho0)
      obtain ⟨Ao86, co86, eo86⟩ := Kd.R_slice HO511.out
      (first | subst eo86 | (injection eo86 with f1_ f2_ f3_; have f4_ := f1_.symm; have f5_ := f3_.symm; clear f1_ f2_ f3_; subst f4_; subst f5_))
      refine hK.out _ _ ⟨(c2 BK498).1, (c2 BK498).2, (c2 BK497).1, (c2 BK497).2⟩ (fun hHeld => ?_)
      clear hK K
      refine norm_ (a' := ?_) ?_ ?_
      rotate_left
      ·show Act.put _ (some 39) _ = _
       simp only [Act.put, z1, z2, z3, i64_w, i32_w]
       rfl
      refine one_ (i := 4) (N := some 40) #[true, true, true, true, true, false, false, false, true, false, false] rfl rfl (one_of HT_.out (by kernel_rfl)) (by decide) (fun K hK => ?_)
      refine gs Try.func69 (by kernel_rfl) rfl #[.agg #[.int .i64 a1_0, .slice A1_1 l1_1.length c1_1], .int .i64 1, .agg #[.int .i64 t508, .slice Ao86 t509.length co86]] (by rfl) rfl rfl ?_
      with_reducible refine (spec_AddScaled.calls kj4 a1_0 _ _ l1_1 1 t508 _ _ t509 t512 t513 true _ ?side1 ?side2 ?side3 ?side4 A45.out).mono ?_
      (case side1 => exact mc ((Kd.C_below HR1_1.out HB.out)))
      (case side2 => exact HC1_1.out)
      (case side3 => exact mc ((Kd.R_reads' HO511.out).2.2))
      (case side4 => exact (Kd.R_reads' HO511.out).2.1)
      rintro e w87 ⟨v514, rfl, ho0, hb⟩
      refine ⟨_, rfl, ?_⟩
      have HO515 := Aside0.mk (Kd.R_lower (Kd.R_new' (Kd.R_new' ho0 (Kd.R_lt (mr HO_506001))) (Kd.R_lt (mr HO511))) (below_size (ms HB)))
      replace HO_506001 := rl HO_506001 ho0 hb
      replace HO511 := rl HO511 ho0 hb
      replace BK497 := bb BK497 hb
      replace BK498 := bb BK498 hb
      replace BK499 := bb BK499 hb
      replace BK505 := bb BK505 hb
      replace BK517 := bb BK517 hb
      replace HB := bs HB hb
      (try clear hb)
      (try clear hb2)
      (try clear hk)
      (try clear hi)
      (try clear ho0)
      refine hK.out _ _ ⟨(c2 BK498).1, (c2 BK498).2, (c2 BK497).1, (c2 BK497).2⟩ (fun hHeld => ?_)
      clear hK K
      refine norm_ (a' := ?_) ?_ ?_
      rotate_left
      ·show Act.put _ (some 40) _ = _
       simp only [Act.put, z1, z2, z3, i64_w, i32_w]
       rfl
      refine pu 5 (some 35) (v := ?_) (a' := ?_) #[true, true, true, true, true, true, false, false, true, false, false] rfl rfl HT_ (fun _ _ _ h => h) (by rfl) ?_ ?_ ?_
      rotate_left
      ·intro w'
       go_simp
       with_reducible rfl
      rotate_left
      ·simp only [Act.put, z1, z2, z3, i64_w, i32_w]
       rfl
      refine pu 6 (some 41) (v := ?_) (a' := ?_) #[true, true, true, true, true, true, true, false, true, false, false] rfl rfl HT_ (fun _ _ _ h => h) (by rfl) ?_ ?_ ?_
      rotate_left
      ·intro w'
       go_simp
       with_reducible rfl
      rotate_left
      ·simp only [Act.put, z1, z2, z3, i64_w, i32_w]
       rfl
      refine pu 7 (some 42) (v := ?_) (a' := ?_) #[true, true, true, true, true, true, true, true, true, false, false] rfl rfl HT_ (fun _ _ _ h => h) (by rfl) ?_ ?_ ?_
      rotate_left
      ·intro w'
       go_simp
       with_reducible rfl
      rotate_left
      ·simp only [Act.put, z1, z2, z3, i64_w, i32_w]
       rfl
      exact norm_ (by simp only [putAll, Act.put, List.setIfInBounds_toArray, List.set_cons_zero, List.set_cons_succ]) (hCont (.slice Ao86 t509.length co86, v514, gb517) _ ⟨hHeld, (by (with_reducible repeat (first | apply Kd.R_alloc | apply Kd.R_drewN | apply Kd.R_drew)); exact Kd.R_mono HO511.out (fun _ hk => ⟨hk.2, hk.1.2⟩)), (by (with_reducible repeat (first | apply Kd.R_alloc | apply Kd.R_drewN | apply Kd.R_drew)); exact Kd.R_mono HO515.out (fun _ hk => ⟨hk.2, hk.1.2⟩)), (by (with_reducible repeat (first | apply Kd.R_alloc | apply Kd.R_drewN | apply Kd.R_drew)); exact Kd.R_mono HO_506001.out (fun _ hk => ⟨hk.1.2, hk.2⟩)), (mb BK497), (mb BK498), (mb BK499), (mb BK505), (mb BK517), GW517.out, GE517.out, NB497_517.out, NB517_497.out, NB498_517.out, NB517_498.out, NB499_517.out, NB517_499.out, NB505_517.out, NB517_505.out, (ms HB)⟩)
     rintro ⟨v510, v514, gb517⟩ w88 ⟨hS_, h0_, h1_, h2_, h3_, h4_, h5_, h6_, h7_, h8_, h9_, h10_, h11_, h12_, h13_, h14_, h15_, h16_, h17_, h18_⟩
     have n0_ : Aside0 (Kd.R (Kd.int .i64) 3 w88 w.heap.size (fun k_ => some k_ ≠ (v514 : Value).ownBlock ∧ some k_ ≠ (.slice Ao20 t501.length co20 : Value).ownBlock) v510 t509) := ⟨h0_⟩
     have n1_ : Aside0 (Kd.R (Kd.int .i64) 3 w88 w.heap.size (fun k_ => some k_ ≠ (v510 : Value).ownBlock ∧ some k_ ≠ (.slice Ao20 t501.length co20 : Value).ownBlock) v514 t513) := ⟨h1_⟩
     have n2_ : Aside0 (Kd.R (Kd.int .i64) 3 w88 w.heap.size (fun k_ => some k_ ≠ (v510 : Value).ownBlock ∧ some k_ ≠ (v514 : Value).ownBlock) (.slice Ao20 t501.length co20) t501) := ⟨h2_⟩
     have n3_ : Aside0 (w88.heap[gb497]? = some (.cells #[.int .i64 a0_0, .slice A0_1 l0_1.length c0_1] 33 (0, 0))) := ⟨h3_⟩
     have n4_ : Aside0 (w88.heap[gb498]? = some (.cells #[.int .i64 a1_0, .slice A1_1 l1_1.length c1_1] 36 (0, 0))) := ⟨h4_⟩
     have n5_ : Aside0 (w88.heap[gb499]? = some (.cells #[.int .i64 a2_0, .slice A2_1 l2_1.length c2_1] 38 (0, 0))) := ⟨h5_⟩
     have n6_ : Aside0 (w88.heap[gb505]? = some (.cells #[.int .i64 t500, .slice Ao20 t501.length co20] 36 (0, 0))) := ⟨h6_⟩
     have n7_ : Aside0 (w88.heap[gb517]? = some (.cells #[.int .i64 0, .slice none 0 0] 36 (0, 0))) := ⟨h7_⟩
     have n8_ : Aside0 (w.heap.size ≤ gb517) := ⟨h8_⟩
     have n9_ : Aside0 (w.heap.size ≤ gb517) := ⟨h9_⟩
     have n10_ : Aside0 (gb497 ≠ gb517) := ⟨h10_⟩
     have n11_ : Aside0 (gb517 ≠ gb497) := ⟨h11_⟩
     have n12_ : Aside0 (gb498 ≠ gb517) := ⟨h12_⟩
     have n13_ : Aside0 (gb517 ≠ gb498) := ⟨h13_⟩
     have n14_ : Aside0 (gb499 ≠ gb517) := ⟨h14_⟩
     have n15_ : Aside0 (gb517 ≠ gb499) := ⟨h15_⟩
     have n16_ : Aside0 (gb505 ≠ gb517) := ⟨h16_⟩
     have n17_ : Aside0 (gb517 ≠ gb505) := ⟨h17_⟩
     have n18_ : Aside0 (Below w.heap.size w w88) := ⟨h18_⟩
     clear HO_506001
     clear BK497
     clear BK498
     clear BK499
     clear BK505
     clear HB
     clear h0_ h1_ h2_ h3_ h4_ h5_ h6_ h7_ h8_ h9_ h10_ h11_ h12_ h13_ h14_ h15_ h16_ h17_ h18_
     have HO511 := n0_
     have HO515 := n1_
     have HO_506001 := n2_
     have BK497 := n3_
     have BK498 := n4_
     have BK499 := n5_
     have BK505 := n6_
     have BK517 := n7_
     have GW517 := n8_
     have GE517 := n9_
     have NB497_517 := n10_
     have NB517_497 := n11_
     have NB498_517 := n12_
     have NB517_498 := n13_
     have NB499_517 := n14_
     have NB517_499 := n15_
     have NB505_517 := n16_
     have NB517_505 := n17_
     have HB := n18_
     clear n0_ n1_ n2_ n3_ n4_ n5_ n6_ n7_ n8_ n9_ n10_ n11_ n12_ n13_ n14_ n15_ n16_ n17_ n18_
     have hHeld : w88.cell? ⟨gb498, 0, none⟩ = some (.int .i64 a1_0) ∧ w88.cell? ⟨gb498, 1, none⟩ = some (.slice A1_1 l1_1.length c1_1) ∧ w88.cell? ⟨gb497, 0, none⟩ = some (.int .i64 a0_0) ∧ w88.cell? ⟨gb497, 1, none⟩ = some (.slice A0_1 l0_1.length c0_1) := hS_
     obtain ⟨Ao90, co90, eo90⟩ := Kd.R_slice HO515.out
     (first | subst eo90 | (injection eo90 with f1_ f2_ f3_; have f4_ := f1_.symm; have f5_ := f3_.symm; clear f1_ f2_ f3_; subst f4_; subst f5_))
     refine norm_ (a' := ?_) ?_ ?_
     rotate_left
     ·simp only [putAll, Act.put, List.setIfInBounds_toArray, List.set_cons_zero, List.set_cons_succ]
      rfl
     refine one_ (i := 9) (N := none) #[true, true, true, true, true, true, true, true, true, true, false] rfl rfl (one_of HT_.out (by kernel_rfl)) (by decide) (fun K hK => ?_)
     have hs89 : w88.cell? ⟨gb517, 0, none⟩ = some (.int .i64 0) := (blk_cell BK517.out 0).trans rfl
     have hfs89 := blk_frozen BK517.out 0
     have hns89_0 := NB497_517.out
     have hns89_1 := NB498_517.out
     have hns89_2 := NB499_517.out
     have hns89_3 := NB505_517.out
     have hms89_0 := NB517_497.out
     have hms89_1 := NB517_498.out
     have hms89_2 := NB517_499.out
     have hms89_3 := NB517_505.out
     have hs91 : w88.cell? ⟨gb517, 1, none⟩ = some (.slice none 0 0) := (blk_cell BK517.out 1).trans rfl
     have hfs91 := blk_frozen BK517.out 1
     have hns91_0 := NB497_517.out
     have hns91_1 := NB498_517.out
     have hns91_2 := NB499_517.out
     have hns91_3 := NB505_517.out
     have hms91_0 := NB517_497.out
     have hms91_1 := NB517_498.out
     have hms91_2 := NB517_499.out
     have hms91_3 := NB517_505.out
     refine skip_ (w1 := ?_) (by rfl) rfl ?_ ?_
     rotate_left
     ·go_simp
      rfl
     refine hK.out _ _ ⟨((cell_far (p := ⟨gb517, _, none⟩) NB498_517.out _).trans (((cell_far (p := ⟨gb517, _, none⟩) NB498_517.out _).trans (hHeld.1)))), ((cell_far (p := ⟨gb517, _, none⟩) NB498_517.out _).trans (((cell_far (p := ⟨gb517, _, none⟩) NB498_517.out _).trans (hHeld.2.1)))), ((cell_far (p := ⟨gb517, _, none⟩) NB497_517.out _).trans (((cell_far (p := ⟨gb517, _, none⟩) NB497_517.out _).trans (hHeld.2.2.1)))), ((cell_far (p := ⟨gb517, _, none⟩) NB497_517.out _).trans (((cell_far (p := ⟨gb517, _, none⟩) NB497_517.out _).trans (hHeld.2.2.2))))⟩ (fun hHeld => ?_)
     clear hK K
     refine pu 10 (some 10) (v := ?_) (a' := ?_) #[true, true, true, true, true, true, true, true, true, true, true] rfl rfl HT_ (fun _ _ _ h => h) (by rfl) ?_ ?_ ?_
     rotate_left
     ·intro w'
      go_simp
      with_reducible rfl
     rotate_left
     ·simp only [Act.put, z1, z2, z3, i64_w, i32_w]
      rfl
     refine done_ (done_of HT_.out (by kernel_rfl)) ?_
     have := NB505_497.out
     have := NB497_505.out
     have := NB505_498.out
     have := NB498_505.out
     have := NB505_499.out
     have := NB499_505.out
     have := NB505_517.out
     have := NB517_505.out
     obtain ⟨_, _, _, _⟩ := cFour BK505
     have := NB499_497.out
     have := NB497_499.out
     have := NB499_498.out
     have := NB498_499.out
     have := NB499_517.out
     have := NB517_499.out
     obtain ⟨_, _, _, _⟩ := cFour BK499
     have := NB517_497.out
     have := NB497_517.out
     have := NB517_498.out
     have := NB498_517.out
     obtain ⟨_, _, _, _⟩ := cFour BK517
     try go_wp2_with (first | ((with_reducible refine gate_callee (f := 69) rfl ?_); refine gl (some 49) rfl rfl Try.func69 (by kernel_rfl) rfl #[.agg #[.int .i64 t500, .slice Ao20 t501.length co20], .int .i64 (wrap64 (-a2_0)), .agg #[.int .i64 t512, .slice Ao90 t513.length co90]] rfl ?_; (with_reducible refine (spec_AddScaled.calls kj4 t500 _ _ t501 (wrap64 (-a2_0)) t512 _ _ t513 t518 t519 true _ ?side1 ?side2 ?side3 ?side4 A46.out).mono ?_); (case side1 => refine (Kd.R_reads' (e := 3) (base := w.heap.size) (ok := fun k_ => (some k_ ≠ (v510 : Value).ownBlock ∧ some k_ ≠ (.slice Ao90 t513.length co90 : Value).ownBlock)) (n := t501.length) (c := co20) ?_).2.2; exact (by (with_reducible repeat (first | apply Kd.R_alloc | apply Kd.R_drewN | apply Kd.R_drew)); exact (rTwo HO_506001 BK517))); (case side2 => exact (Kd.R_reads' HO_506001.out).2.1); (case side3 => refine (Kd.R_reads' (e := 3) (base := w.heap.size) (ok := fun k_ => (some k_ ≠ (v510 : Value).ownBlock ∧ some k_ ≠ (.slice Ao20 t501.length co20 : Value).ownBlock)) (n := t513.length) (c := co90) ?_).2.2; exact (by (with_reducible repeat (first | apply Kd.R_alloc | apply Kd.R_drewN | apply Kd.R_drew)); exact (rTwo HO515 BK517))); (case side4 => exact (Kd.R_reads' HO515.out).2.1); rintro e w104 ⟨v520, rfl, ho0, hb⟩; refine ⟨_, rfl, ?_⟩; have n0_ := Aside0.mk (Kd.R_elder' (by (with_reducible repeat (first | apply Kd.R_alloc | apply Kd.R_drewN | apply Kd.R_drew)); exact (rTwo HO_506001 BK517)) (Kd.R_base ho0) hb); have n1_ := Aside0.mk (Kd.R_elder' (by (with_reducible repeat (first | apply Kd.R_alloc | apply Kd.R_drewN | apply Kd.R_drew)); exact (rTwo HO511 BK517)) (Kd.R_base ho0) hb); have n2_ := Aside0.mk (Kd.R_elder' (by (with_reducible repeat (first | apply Kd.R_alloc | apply Kd.R_drewN | apply Kd.R_drew)); exact (rTwo HO515 BK517)) (Kd.R_base ho0) hb); have n3_ := Aside0.mk (Kd.R_lower (Kd.R_new' (Kd.R_new' (Kd.R_new' ho0 (Kd.R_lt (by (with_reducible repeat (first | apply Kd.R_alloc | apply Kd.R_drewN | apply Kd.R_drew)); exact (rTwo HO_506001 BK517)))) (Kd.R_lt (by (with_reducible repeat (first | apply Kd.R_alloc | apply Kd.R_drewN | apply Kd.R_drew)); exact (rTwo HO511 BK517)))) (Kd.R_lt (by (with_reducible repeat (first | apply Kd.R_alloc | apply Kd.R_drewN | apply Kd.R_drew)); exact (rTwo HO515 BK517)))) (below_size (ms HB))); have n4_ := bf BK497 hb; have n5_ := bf BK498 hb; have n6_ := bf BK499 hb; have n7_ := bf BK505 hb; have n8_ := bp BK517 hb; have n9_ := bs HB hb; clear HO_506001 HO511 HO515 BK497 BK498 BK499 BK505 BK517 HB; have HO_506001 := n0_; have HO511 := n1_; have HO515 := n2_; have HO521 := n3_; have BK497 := n4_; have BK498 := n5_; have BK499 := n6_; have BK505 := n7_; have BK517 := n8_; have HB := n9_; clear n0_ n1_ n2_ n3_ n4_ n5_ n6_ n7_ n8_ n9_; (try clear hb); (try clear ho0)) | ((with_reducible refine gate_dst (N := 11) rfl ?_); refine box_event ?hg (N := 11) ?hd (cs := #[.int .i64 0, .slice none 0 0]) (t := 36) ?hr ?_; (case hd => rfl); (case hg => rfl); (case hr => first | (go_simp; done) | (go_simp; rfl)); intro gb523 hg w105 hbox hb; replace HO_506001 := rb HO_506001 hb; replace HO511 := rb HO511 hb; replace HO515 := rb HO515 hb; replace HO521 := rb HO521 hb; have BK523 := Aside0.mk (hbox); have GW523 := gw hg HB; have GE523 := gw hg HB; replace HB := bs HB hb; have NB497_523 := nl hg BK497; have NB523_497 := ng hg BK497; replace BK497 := bb BK497 hb; have NB498_523 := nl hg BK498; have NB523_498 := ng hg BK498; replace BK498 := bb BK498 hb; have NB499_523 := nl hg BK499; have NB523_499 := ng hg BK499; replace BK499 := bb BK499 hb; have NB505_523 := nl hg BK505; have NB523_505 := ng hg BK505; replace BK505 := bb BK505 hb; have NB517_523 := nl hg BK517; have NB523_517 := ng hg BK517; replace BK517 := bb BK517 hb; clear hb hbox hg; have := NB523_497.out; have := NB497_523.out; have := NB523_498.out; have := NB498_523.out; have := NB523_499.out; have := NB499_523.out; have := NB523_505.out; have := NB505_523.out; have := NB523_517.out; have := NB517_523.out; obtain ⟨_, _, _, _⟩ := cFour BK523; obtain ⟨Ao112, co112, eo112⟩ := Kd.R_slice HO521.out; subst eo112) | (go_at_call 70; (with_reducible refine (spec_IsConstant.calls kj4 t518 _ _ t519 false _ ?side1 ?side2 A49.out).mono ?_); (case side1 => refine (Kd.R_reads' (e := 3) (base := w.heap.size) (ok := fun k_ => (((True ∧ some k_ ≠ (.slice Ao20 t501.length co20 : Value).ownBlock) ∧ some k_ ≠ (v510 : Value).ownBlock) ∧ some k_ ≠ (.slice Ao90 t513.length co90 : Value).ownBlock)) (n := t519.length) (c := co112) ?_).2.2; exact (by (with_reducible repeat (first | apply Kd.R_alloc | apply Kd.R_drewN | apply Kd.R_drew)); exact (rTwo HO521 BK523))); (case side2 => exact (Kd.R_reads' HO521.out).2.1); rintro e w113 ⟨rfl, hb⟩; have n0_ := Aside0.mk (Kd.R_below (by (with_reducible repeat (first | apply Kd.R_alloc | apply Kd.R_drewN | apply Kd.R_drew)); exact (rTwo HO_506001 BK523)) hb); have n1_ := Aside0.mk (Kd.R_below (by (with_reducible repeat (first | apply Kd.R_alloc | apply Kd.R_drewN | apply Kd.R_drew)); exact (rTwo HO511 BK523)) hb); have n2_ := Aside0.mk (Kd.R_below (by (with_reducible repeat (first | apply Kd.R_alloc | apply Kd.R_drewN | apply Kd.R_drew)); exact (rTwo HO515 BK523)) hb); have n3_ := Aside0.mk (Kd.R_below (by (with_reducible repeat (first | apply Kd.R_alloc | apply Kd.R_drewN | apply Kd.R_drew)); exact (rTwo HO521 BK523)) hb); have n4_ := bf BK497 hb; have n5_ := bf BK498 hb; have n6_ := bf BK499 hb; have n7_ := bf BK505 hb; have n8_ := bf BK517 hb; have n9_ := bp BK523 hb; have n10_ := bs HB hb; clear HO_506001 HO511 HO515 HO521 BK497 BK498 BK499 BK505 BK517 BK523 HB; have HO_506001 := n0_; have HO511 := n1_; have HO515 := n2_; have HO521 := n3_; have BK497 := n4_; have BK498 := n5_; have BK499 := n6_; have BK505 := n7_; have BK517 := n8_; have BK523 := n9_; have HB := n10_; clear n0_ n1_ n2_ n3_ n4_ n5_ n6_ n7_ n8_ n9_ n10_; (try clear hb)))
     go_ret
     exact ⟨by first | rfl | (simp [errW_none, errW_some] <;> rfl) | (simp [*, errW_none, errW_some] <;> rfl), ms HB⟩
    replace c48 := Bool.eq_false_iff.mpr c48
    subst c48
    have H1 : (some false) = some r := by rw [if_neg (show ¬ (false = true) by decide)] at H; exact H
    clear H
    have H := H1
    clear H1
    obtain rfl := Option.some.inj H
    try go_wp2
    replace HO_506001 := Aside0.mk (Kd.R_drew HO_506001.out)
    replace BK497 := Aside0.mk (blk_drew BK497.out)
    replace BK498 := Aside0.mk (blk_drew BK498.out)
    replace BK499 := Aside0.mk (blk_drew BK499.out)
    replace BK505 := Aside0.mk (blk_drew BK505.out)
    replace HB := Aside0.mk (below_drew1 HB.out)
    refine start_ (n := 11) (S := fun w' => w'.cell? ⟨gb498, 0, none⟩ = some (.int .i64 a1_0) ∧ w'.cell? ⟨gb498, 1, none⟩ = some (.slice A1_1 l1_1.length c1_1) ∧ w'.cell? ⟨gb497, 0, none⟩ = some (.int .i64 a0_0) ∧ w'.cell? ⟨gb497, 1, none⟩ = some (.slice A0_1 l0_1.length c0_1)) (ds := []) #[false, false, false, false, false, false, false, false, false, false, false] (by kernel_rfl) rfl rfl ⟨(c2 BK498).1, (c2 BK498).2, (c2 BK497).1, (c2 BK497).2⟩ (fun hHeld => ?_); refine with_tabW spec_CheckFarkas.tab4 spec_CheckFarkas.bits4 (fun HT_ HW_ => ?_)
    generalize wc.drew = w114 at HO_506001 BK497 BK498 BK499 BK505 HB hHeld ⊢
    refine pu 1 (some 37) (v := ?_) (a' := ?_) #[false, true, false, false, false, false, false, false, false, false, false] rfl rfl HT_ (fun _ _ _ h => h) (by rfl) ?_ ?_ ?_
    rotate_left
    ·intro w'
     go_simp
     with_reducible rfl
    rotate_left
    ·simp only [Act.put, z1, z2, z3, i64_w, i32_w]
     rfl
    refine tk 0 (some 36) (v := ?_) (a' := ?_) #[true, true, false, false, false, false, false, false, false, false, false] rfl rfl HT_ HW_ (fun _ _ _ h => h) (by rfl) ?_ hHeld ?_ ?_
    rotate_left
    ·rintro w' ⟨s0, s1, s2, s3⟩
     go_simp
     with_reducible rfl
    rotate_left
    ·simp only [Act.put, z1, z2, z3, i64_w, i32_w]
     rfl
    refine tk 2 (some 38) (v := ?_) (a' := ?_) #[true, true, true, false, false, false, false, false, false, false, false] rfl rfl HT_ HW_ (fun _ _ _ h => h) (by rfl) ?_ hHeld ?_ ?_
    rotate_left
    ·rintro w' ⟨s0, s1, s2, s3⟩
     go_simp
     with_reducible rfl
    rotate_left
    ·simp only [Act.put, z1, z2, z3, i64_w, i32_w]
     rfl
    refine join_ (σ := Value × Value × Nat) 2 #[true, true, true, true, true, true, true, true, true, false, false] (fun s_ => [(39, .agg #[.int .i64 t508, s_.1]), (40, .tuple #[.agg #[.int .i64 t512, s_.2.1], .bool true]), (9, .pointer (some ⟨s_.2.2, 0, none⟩)), (35, .tuple #[.agg #[.int .i64 t512, s_.2.1], .bool true]), (41, .agg #[.int .i64 t512, s_.2.1]), (42, .bool true)]) (fun s_ w' => (w'.cell? ⟨gb498, 0, none⟩ = some (.int .i64 a1_0) ∧ w'.cell? ⟨gb498, 1, none⟩ = some (.slice A1_1 l1_1.length c1_1) ∧ w'.cell? ⟨gb497, 0, none⟩ = some (.int .i64 a0_0) ∧ w'.cell? ⟨gb497, 1, none⟩ = some (.slice A0_1 l0_1.length c0_1)) ∧ (Kd.R (Kd.int .i64) 3 w' w.heap.size (fun k_ => some k_ ≠ (s_.2.1 : Value).ownBlock ∧ some k_ ≠ (.slice Ao20 t501.length co20 : Value).ownBlock) s_.1 t509) ∧ (Kd.R (Kd.int .i64) 3 w' w.heap.size (fun k_ => some k_ ≠ (s_.1 : Value).ownBlock ∧ some k_ ≠ (.slice Ao20 t501.length co20 : Value).ownBlock) s_.2.1 t513) ∧ (Kd.R (Kd.int .i64) 3 w' w.heap.size (fun k_ => some k_ ≠ (s_.1 : Value).ownBlock ∧ some k_ ≠ (s_.2.1 : Value).ownBlock) (.slice Ao20 t501.length co20) t501) ∧ (w'.heap[gb497]? = some (.cells #[.int .i64 a0_0, .slice A0_1 l0_1.length c0_1] 33 (0, 0))) ∧ (w'.heap[gb498]? = some (.cells #[.int .i64 a1_0, .slice A1_1 l1_1.length c1_1] 36 (0, 0))) ∧ (w'.heap[gb499]? = some (.cells #[.int .i64 a2_0, .slice A2_1 l2_1.length c2_1] 38 (0, 0))) ∧ (w'.heap[gb505]? = some (.cells #[.int .i64 t500, .slice Ao20 t501.length co20] 36 (0, 0))) ∧ (w'.heap[s_.2.2]? = some (.cells #[.int .i64 0, .slice none 0 0] 36 (0, 0))) ∧ (w.heap.size ≤ s_.2.2) ∧ (w.heap.size ≤ s_.2.2) ∧ (gb497 ≠ s_.2.2) ∧ (s_.2.2 ≠ gb497) ∧ (gb498 ≠ s_.2.2) ∧ (s_.2.2 ≠ gb498) ∧ (gb499 ≠ s_.2.2) ∧ (s_.2.2 ≠ gb499) ∧ (gb505 ≠ s_.2.2) ∧ (s_.2.2 ≠ gb505) ∧ (Below w.heap.size w w')) ?_ ?_
    rotate_left
    ·intro hCont
     refine two_ (i := 3) (j := 8) (Ni := some 39) (Nj := some 9) #[true, true, true, true, false, false, false, false, false, false, false] #[true, true, true, false, false, false, false, false, true, false, false] rfl rfl rfl rfl (two_of HT_.out (by kernel_rfl)) (by decide) (by decide) (fun K hK => ?_) (fun K hK => ?_)
     ·skip
      refine gs Try.func44 (by kernel_rfl) rfl #[.int .i64 1, .int .i64 a0_0] (by rfl) rfl rfl ?_
      with_reducible refine (spec_ConstLin.calls 1 a0_0 t508 t509 _ A44.out).mono ?_
      rintro e w115 ⟨v510, rfl, ho0, hb⟩
      refine ⟨_, rfl, ?_⟩
      have HO511 := Aside0.mk (Kd.R_lower (Kd.R_new' ho0 (Kd.R_lt (mr HO_506001))) (below_size (ms HB)))
      replace HO_506001 := rl HO_506001 ho0 hb
      replace BK497 := bb BK497 hb
      replace BK498 := bb BK498 hb
      replace BK499 := bb BK499 hb
      replace BK505 := bb BK505 hb
      replace HB := bs HB hb
      (try clear hb)
      (try clear hb2)
      (try clear hk)
      (try clear hi)
      (try clear ho0)
      obtain ⟨Ao116, co116, eo116⟩ := Kd.R_slice HO511.out
      (first | subst eo116 | (injection eo116 with f1_ f2_ f3_; have f4_ := f1_.symm; have f5_ := f3_.symm; clear f1_ f2_ f3_; subst f4_; subst f5_))
      refine hK.out _ _ ⟨(c2 BK498).1, (c2 BK498).2, (c2 BK497).1, (c2 BK497).2⟩ (fun hHeld => ?_)
      clear hK K
      refine norm_ (a' := ?_) ?_ ?_
      rotate_left
      ·show Act.put _ (some 39) _ = _
       simp only [Act.put, z1, z2, z3, i64_w, i32_w]
       rfl
      refine two_ (i := 4) (j := 8) (Ni := some 40) (Nj := some 9) #[true, true, true, true, true, false, false, false, false, false, false] #[true, true, true, true, false, false, false, false, true, false, false] rfl rfl rfl rfl (two_of HT_.out (by kernel_rfl)) (by decide) (by decide) (fun K hK => ?_) (fun K hK => ?_)
      ·skip
       refine gs Try.func69 (by kernel_rfl) rfl #[.agg #[.int .i64 a1_0, .slice A1_1 l1_1.length c1_1], .int .i64 1, .agg #[.int .i64 t508, .slice Ao116 t509.length co116]] (by rfl) rfl rfl ?_
       with_reducible refine (spec_AddScaled.calls kj4 a1_0 _ _ l1_1 1 t508 _ _ t509 t512 t513 true _ ?side1 ?side2 ?side3 ?side4 A45.out).mono ?_
       (case side1 => exact mc ((Kd.C_below HR1_1.out HB.out)))
       (case side2 => exact HC1_1.out)
       (case side3 => exact mc ((Kd.R_reads' HO511.out).2.2))
       (case side4 => exact (Kd.R_reads' HO511.out).2.1)
       rintro e w117 ⟨v514, rfl, ho0, hb⟩
       refine ⟨_, rfl, ?_⟩
       have HO515 := Aside0.mk (Kd.R_lower (Kd.R_new' (Kd.R_new' ho0 (Kd.R_lt (mr HO_506001))) (Kd.R_lt (mr HO511))) (below_size (ms HB)))
       replace HO_506001 := rl HO_506001 ho0 hb
       replace HO511 := rl HO511 ho0 hb
       replace BK497 := bb BK497 hb
       replace BK498 := bb BK498 hb
       replace BK499 := bb BK499 hb
       replace BK505 := bb BK505 hb
       replace HB := bs HB hb
       (try clear hb)
       (try clear hb2)
       (try clear hk)
       (try clear hi)
       (try clear ho0)
       refine hK.out _ _ ⟨(c2 BK498).1, (c2 BK498).2, (c2 BK497).1, (c2 BK497).2⟩ (fun hHeld => ?_)
       clear hK K
       refine norm_ (a' := ?_) ?_ ?_
       rotate_left
       ·show Act.put _ (some 40) _ = _
        simp only [Act.put, z1, z2, z3, i64_w, i32_w]
        rfl
       refine pu 5 (some 35) (v := ?_) (a' := ?_) #[true, true, true, true, true, true, false, false, false, false, false] rfl rfl HT_ (fun _ _ _ h => h) (by rfl) ?_ ?_ ?_
       rotate_left
       ·intro w'
        go_simp
        with_reducible rfl
       rotate_left
       ·simp only [Act.put, z1, z2, z3, i64_w, i32_w]
        rfl
       refine pu 6 (some 41) (v := ?_) (a' := ?_) #[true, true, true, true, true, true, true, false, false, false, false] rfl rfl HT_ (fun _ _ _ h => h) (by rfl) ?_ ?_ ?_
       rotate_left
       ·intro w'
        go_simp
        with_reducible rfl
       rotate_left
       ·simp only [Act.put, z1, z2, z3, i64_w, i32_w]
        rfl
       refine pu 7 (some 42) (v := ?_) (a' := ?_) #[true, true, true, true, true, true, true, true, false, false, false] rfl rfl HT_ (fun _ _ _ h => h) (by rfl) ?_ ?_ ?_
       rotate_left
       ·intro w'
        go_simp
        with_reducible rfl
       rotate_left
       ·simp only [Act.put, z1, z2, z3, i64_w, i32_w]
        rfl
       refine one_ (i := 8) (N := some 9) #[true, true, true, true, true, true, true, true, true, false, false] rfl rfl (one_of HT_.out (by kernel_rfl)) (by decide) (fun K hK => ?_)
       refine box_step ?hg (N := 9) ?hd (cs := #[.int .i64 0, .slice none 0 0]) (t := 36) ?hr ?_; (case hd => rfl); (case hg => rfl); (case hr => first | (go_simp; done) | (go_simp; rfl))
       intro gb517 hg w118 hbox hb
       replace HO_506001 := rb HO_506001 hb
       replace HO511 := rb HO511 hb
       replace HO515 := rb HO515 hb
       have BK517 := Aside0.mk (hbox)
       have GW517 := gw hg HB
       have GE517 := gw hg HB
       replace HB := bs HB hb
       have NB497_517 := nl hg BK497
       have NB517_497 := ng hg BK497
       replace BK497 := bb BK497 hb
       have NB498_517 := nl hg BK498
       have NB517_498 := ng hg BK498
       replace BK498 := bb BK498 hb
       have NB499_517 := nl hg BK499
       have NB517_499 := ng hg BK499
       replace BK499 := bb BK499 hb
       have NB505_517 := nl hg BK505
       have NB517_505 := ng hg BK505
       replace BK505 := bb BK505 hb
       clear hb hbox hg
       refine hK.out _ _ ⟨(c2 BK498).1, (c2 BK498).2, (c2 BK497).1, (c2 BK497).2⟩ (fun hHeld => ?_)
       clear hK K
       refine norm_ (a' := ?_) ?_ ?_
       rotate_left
       ·show Act.put _ (some 9) _ = _
        simp only [Act.put, z1, z2, z3, i64_w, i32_w]
        rfl
       exact norm_ (by simp only [putAll, Act.put, List.setIfInBounds_toArray, List.set_cons_zero, List.set_cons_succ]) (hCont (.slice Ao116 t509.length co116, v514, gb517) _ ⟨hHeld, (by (with_reducible repeat (first | apply Kd.R_alloc | apply Kd.R_drewN | apply Kd.R_drew)); exact Kd.R_mono HO511.out (fun _ hk => ⟨hk.2, hk.1.2⟩)), (by (with_reducible repeat (first | apply Kd.R_alloc | apply Kd.R_drewN | apply Kd.R_drew)); exact Kd.R_mono HO515.out (fun _ hk => ⟨hk.2, hk.1.2⟩)), (by (with_reducible repeat (first | apply Kd.R_alloc | apply Kd.R_drewN | apply Kd.R_drew)); exact Kd.R_mono HO_506001.out (fun _ hk => ⟨hk.1.2, hk.2⟩)), (mb BK497), (mb BK498), (mb BK499), (mb BK505), (mb BK517), GW517.out, GE517.out, NB497_517.out, NB517_497.out, NB498_517.out, NB517_498.out, NB499_517.out, NB517_499.out, NB505_517.out, NB517_505.out, (ms HB)⟩)
      skip
      refine box_step ?hg (N := 9) ?hd (cs := #[.int .i64 0, .slice none 0 0]) (t := 36) ?hr ?_; (case hd => rfl); (case hg => rfl); (case hr => first | (go_simp; done) | (go_simp; rfl))
      intro gb517 hg w116 hbox hb
      replace HO_506001 := rb HO_506001 hb
      replace HO511 := rb HO511 hb
      have BK517 := Aside0.mk (hbox)
      have GW517 := gw hg HB
      have GE517 := gw hg HB
      replace HB := bs HB hb
      have NB497_517 := nl hg BK497
      have NB517_497 := ng hg BK497
      replace BK497 := bb BK497 hb
      have NB498_517 := nl hg BK498
      have NB517_498 := ng hg BK498
      replace BK498 := bb BK498 hb
      have NB499_517 := nl hg BK499
      have NB517_499 := ng hg BK499
      replace BK499 := bb BK499 hb
      have NB505_517 := nl hg BK505
      have NB517_505 := ng hg BK505
      replace BK505 := bb BK505 hb
      clear hb hbox hg
      obtain ⟨Ao117, co117, eo117⟩ := Kd.R_slice HO511.out
      (first | subst eo117 | (injection eo117 with f1_ f2_ f3_; have f4_ := f1_.symm; have f5_ := f3_.symm; clear f1_ f2_ f3_; subst f4_; subst f5_))
      refine hK.out _ _ ⟨(c2 BK498).1, (c2 BK498).2, (c2 BK497).1, (c2 BK497).2⟩ (fun hHeld => ?_)
      clear hK K
      refine norm_ (a' := ?_) ?_ ?_
      rotate_left
      ·show Act.put _ (some 9) _ = _
       simp only [Act.put, z1, z2, z3, i64_w, i32_w]
       rfl
      refine one_ (i := 4) (N := some 40) #[true, true, true, true, true, false, false, false, true, false, false] rfl rfl (one_of HT_.out (by kernel_rfl)) (by decide) (fun K hK => ?_)
      refine gs Try.func69 (by kernel_rfl) rfl #[.agg #[.int .i64 a1_0, .slice A1_1 l1_1.length c1_1], .int .i64 1, .agg #[.int .i64 t508, .slice Ao117 t509.length co117]] (by rfl) rfl rfl ?_
      with_reducible refine (spec_AddScaled.calls kj4 a1_0 _ _ l1_1 1 t508 _ _ t509 t512 t513 true _ ?side1 ?side2 ?side3 ?side4 A45.out).mono ?_
      (case side1 => exact mc ((Kd.C_below HR1_1.out HB.out)))
      (case side2 => exact HC1_1.out)
      (case side3 => exact mc ((Kd.R_reads' HO511.out).2.2))
      (case side4 => exact (Kd.R_reads' HO511.out).2.1)
      rintro e w118 ⟨v514, rfl, ho0, hb⟩
      refine ⟨_, rfl, ?_⟩
      have HO515 := Aside0.mk (Kd.R_lower (Kd.R_new' (Kd.R_new' ho0 (Kd.R_lt (mr HO_506001))) (Kd.R_lt (mr HO511))) (below_size (ms HB)))
      replace HO_506001 := rl HO_506001 ho0 hb
      replace HO511 := rl HO511 ho0 hb
      replace BK497 := bb BK497 hb
      replace BK498 := bb BK498 hb
      replace BK499 := bb BK499 hb
      replace BK505 := bb BK505 hb
      replace BK517 := bb BK517 hb
      replace HB := bs HB hb
      (try clear hb)
      (try clear hb2)
      (try clear hk)
      (try clear hi)
      (try clear ho0)
      refine hK.out _ _ ⟨(c2 BK498).1, (c2 BK498).2, (c2 BK497).1, (c2 BK497).2⟩ (fun hHeld => ?_)
      clear hK K
      refine norm_ (a' := ?_) ?_ ?_
      rotate_left
      ·show Act.put _ (some 40) _ = _
       simp only [Act.put, z1, z2, z3, i64_w, i32_w]
       rfl
      refine pu 5 (some 35) (v := ?_) (a' := ?_) #[true, true, true, true, true, true, false, false, true, false, false] rfl rfl HT_ (fun _ _ _ h => h) (by rfl) ?_ ?_ ?_
      rotate_left
      ·intro w'
       go_simp
       with_reducible rfl
      rotate_left
      ·simp only [Act.put, z1, z2, z3, i64_w, i32_w]
       rfl
      refine pu 6 (some 41) (v := ?_) (a' := ?_) #[true, true, true, true, true, true, true, false, true, false, false] rfl rfl HT_ (fun _ _ _ h => h) (by rfl) ?_ ?_ ?_
      rotate_left
      ·intro w'
       go_simp
       with_reducible rfl
      rotate_left
      ·simp only [Act.put, z1, z2, z3, i64_w, i32_w]
       rfl
      refine pu 7 (some 42) (v := ?_) (a' := ?_) #[true, true, true, true, true, true, true, true, true, false, false] rfl rfl HT_ (fun _ _ _ h => h) (by rfl) ?_ ?_ ?_
      rotate_left
      ·intro w'
       go_simp
       with_reducible rfl
      rotate_left
      ·simp only [Act.put, z1, z2, z3, i64_w, i32_w]
       rfl
      exact norm_ (by simp only [putAll, Act.put, List.setIfInBounds_toArray, List.set_cons_zero, List.set_cons_succ]) (hCont (.slice Ao117 t509.length co117, v514, gb517) _ ⟨hHeld, (by (with_reducible repeat (first | apply Kd.R_alloc | apply Kd.R_drewN | apply Kd.R_drew)); exact Kd.R_mono HO511.out (fun _ hk => ⟨hk.2, hk.1.2⟩)), (by (with_reducible repeat (first | apply Kd.R_alloc | apply Kd.R_drewN | apply Kd.R_drew)); exact Kd.R_mono HO515.out (fun _ hk => ⟨hk.2, hk.1.2⟩)), (by (with_reducible repeat (first | apply Kd.R_alloc | apply Kd.R_drewN | apply Kd.R_drew)); exact Kd.R_mono HO_506001.out (fun _ hk => ⟨hk.1.2, hk.2⟩)), (mb BK497), (mb BK498), (mb BK499), (mb BK505), (mb BK517), GW517.out, GE517.out, NB497_517.out, NB517_497.out, NB498_517.out, NB517_498.out, NB499_517.out, NB517_499.out, NB505_517.out, NB517_505.out, (ms HB)⟩)
     skip
     refine box_step ?hg (N := 9) ?hd (cs := #[.int .i64 0, .slice none 0 0]) (t := 36) ?hr ?_; (case hd => rfl); (case hg => rfl); (case hr => first | (go_simp; done) | (go_simp; rfl))
     intro gb517 hg w115 hbox hb
     replace HO_506001 := rb HO_506001 hb
     have BK517 := Aside0.mk (hbox)
     have GW517 := gw hg HB
     have GE517 := gw hg HB
     replace HB := bs HB hb
     have NB497_517 := nl hg BK497
     have NB517_497 := ng hg BK497
     replace BK497 := bb BK497 hb
     have NB498_517 := nl hg BK498
     have NB517_498 := ng hg BK498
     replace BK498 := bb BK498 hb
     have NB499_517 := nl hg BK499
     have NB517_499 := ng hg BK499
     replace BK499 := bb BK499 hb
     have NB505_517 := nl hg BK505
     have NB517_505 := ng hg BK505
     replace BK505 := bb BK505 hb
     clear hb hbox hg
     refine hK.out _ _ ⟨(c2 BK498).1, (c2 BK498).2, (c2 BK497).1, (c2 BK497).2⟩ (fun hHeld => ?_)
     clear hK K
     refine norm_ (a' := ?_) ?_ ?_
     rotate_left
     ·show Act.put _ (some 9) _ = _
      simp only [Act.put, z1, z2, z3, i64_w, i32_w]
      rfl
     refine one_ (i := 3) (N := some 39) #[true, true, true, true, false, false, false, false, true, false, false] rfl rfl (one_of HT_.out (by kernel_rfl)) (by decide) (fun K hK => ?_)
     refine gs Try.func44 (by kernel_rfl) rfl #[.int .i64 1, .int .i64 a0_0] (by rfl) rfl rfl ?_
     with_reducible refine (spec_ConstLin.calls 1 a0_0 t508 t509 _ A44.out).mono ?_
     rintro e w116 ⟨v510, rfl, ho0, hb⟩
     refine ⟨_, rfl, ?_⟩
     have HO511 := Aside0.mk (Kd.R_lower (Kd.R_new' ho0 (Kd.R_lt (mr HO_506001))) (below_size (ms HB)))
     replace HO_506001 := rl HO_506001 ho0 hb
     replace BK497 := bb BK497 hb
     replace BK498 := bb BK498 hb
     replace BK499 := bb BK499 hb
     replace BK505 := bb BK505 hb
     replace BK517 := bb BK517 hb
     replace HB := bs HB hb
     (try clear hb)
     (try clear hb2)
     (try clear hk)
     (try clear hi)
     (try clear ho0)
     obtain ⟨Ao117, co117, eo117⟩ := Kd.R_slice HO511.out
     (first | subst eo117 | (injection eo117 with f1_ f2_ f3_; have f4_ := f1_.symm; have f5_ := f3_.symm; clear f1_ f2_ f3_; subst f4_; subst f5_))
     refine hK.out _ _ ⟨(c2 BK498).1, (c2 BK498).2, (c2 BK497).1, (c2 BK497).2⟩ (fun hHeld => ?_)
     clear hK K
     refine norm_ (a' := ?_) ?_ ?_
     rotate_left
     ·show Act.put _ (some 39) _ = _
      simp only [Act.put, z1, z2, z3, i64_w, i32_w]
      rfl
     refine one_ (i := 4) (N := some 40) #[true, true, true, true, true, false, false, false, true, false, false] rfl rfl (one_of HT_.out (by kernel_rfl)) (by decide) (fun K hK => ?_)
     refine gs Try.func69 (by kernel_rfl) rfl #[.agg #[.int .i64 a1_0, .slice A1_1 l1_1.length c1_1], .int .i64 1, .agg #[.int .i64 t508, .slice Ao117 t509.length co117]] (by rfl) rfl rfl ?_
     with_reducible refine (spec_AddScaled.calls kj4 a1_0 _ _ l1_1 1 t508 _ _ t509 t512 t513 true _ ?side1 ?side2 ?side3 ?side4 A45.out).mono ?_
     (case side1 => exact mc ((Kd.C_below HR1_1.out HB.out)))
     (case side2 => exact HC1_1.out)
     (case side3 => exact mc ((Kd.R_reads' HO511.out).2.2))
     (case side4 => exact (Kd.R_reads' HO511.out).2.1)
     rintro e w118 ⟨v514, rfl, ho0, hb⟩
     refine ⟨_, rfl, ?_⟩
     have HO515 := Aside0.mk (Kd.R_lower (Kd.R_new' (Kd.R_new' ho0 (Kd.R_lt (mr HO_506001))) (Kd.R_lt (mr HO511))) (below_size (ms HB)))
     replace HO_506001 := rl HO_506001 ho0 hb
     replace HO511 := rl HO511 ho0 hb
     replace BK497 := bb BK497 hb
     replace BK498 := bb BK498 hb
     replace BK499 := bb BK499 hb
     replace BK505 := bb BK505 hb
     replace BK517 := bb BK517 hb
     replace HB := bs HB hb
     (try clear hb)
     (try clear hb2)
     (try clear hk)
     (try clear hi)
     (try clear ho0)
     refine hK.out _ _ ⟨(c2 BK498).1, (c2 BK498).2, (c2 BK497).1, (c2 BK497).2⟩ (fun hHeld => ?_)
     clear hK K
     refine norm_ (a' := ?_) ?_ ?_
     rotate_left
     ·show Act.put _ (some 40) _ = _
      simp only [Act.put, z1, z2, z3, i64_w, i32_w]
      rfl
     refine pu 5 (some 35) (v := ?_) (a' := ?_) #[true, true, true, true, true, true, false, false, true, false, false] rfl rfl HT_ (fun _ _ _ h => h) (by rfl) ?_ ?_ ?_
     rotate_left
     ·intro w'
      go_simp
      with_reducible rfl
     rotate_left
     ·simp only [Act.put, z1, z2, z3, i64_w, i32_w]
      rfl
     refine pu 6 (some 41) (v := ?_) (a' := ?_) #[true, true, true, true, true, true, true, false, true, false, false] rfl rfl HT_ (fun _ _ _ h => h) (by rfl) ?_ ?_ ?_
     rotate_left
     ·intro w'
      go_simp
      with_reducible rfl
     rotate_left
     ·simp only [Act.put, z1, z2, z3, i64_w, i32_w]
      rfl
     refine pu 7 (some 42) (v := ?_) (a' := ?_) #[true, true, true, true, true, true, true, true, true, false, false] rfl rfl HT_ (fun _ _ _ h => h) (by rfl) ?_ ?_ ?_
     rotate_left
     ·intro w'
      go_simp
      with_reducible rfl
     rotate_left
     ·simp only [Act.put, z1, z2, z3, i64_w, i32_w]
      rfl
     exact norm_ (by simp only [putAll, Act.put, List.setIfInBounds_toArray, List.set_cons_zero, List.set_cons_succ]) (hCont (.slice Ao117 t509.length co117, v514, gb517) _ ⟨hHeld, (by (with_reducible repeat (first | apply Kd.R_alloc | apply Kd.R_drewN | apply Kd.R_drew)); exact Kd.R_mono HO511.out (fun _ hk => ⟨hk.2, hk.1.2⟩)), (by (with_reducible repeat (first | apply Kd.R_alloc | apply Kd.R_drewN | apply Kd.R_drew)); exact Kd.R_mono HO515.out (fun _ hk => ⟨hk.2, hk.1.2⟩)), (by (with_reducible repeat (first | apply Kd.R_alloc | apply Kd.R_drewN | apply Kd.R_drew)); exact Kd.R_mono HO_506001.out (fun _ hk => ⟨hk.1.2, hk.2⟩)), (mb BK497), (mb BK498), (mb BK499), (mb BK505), (mb BK517), GW517.out, GE517.out, NB497_517.out, NB517_497.out, NB498_517.out, NB517_498.out, NB499_517.out, NB517_499.out, NB505_517.out, NB517_505.out, (ms HB)⟩)
    rintro ⟨v510, v514, gb517⟩ w119 ⟨hS_, h0_, h1_, h2_, h3_, h4_, h5_, h6_, h7_, h8_, h9_, h10_, h11_, h12_, h13_, h14_, h15_, h16_, h17_, h18_⟩
    have n0_ : Aside0 (Kd.R (Kd.int .i64) 3 w119 w.heap.size (fun k_ => some k_ ≠ (v514 : Value).ownBlock ∧ some k_ ≠ (.slice Ao20 t501.length co20 : Value).ownBlock) v510 t509) := ⟨h0_⟩
    have n1_ : Aside0 (Kd.R (Kd.int .i64) 3 w119 w.heap.size (fun k_ => some k_ ≠ (v510 : Value).ownBlock ∧ some k_ ≠ (.slice Ao20 t501.length co20 : Value).ownBlock) v514 t513) := ⟨h1_⟩
    have n2_ : Aside0 (Kd.R (Kd.int .i64) 3 w119 w.heap.size (fun k_ => some k_ ≠ (v510 : Value).ownBlock ∧ some k_ ≠ (v514 : Value).ownBlock) (.slice Ao20 t501.length co20) t501) := ⟨h2_⟩
    have n3_ : Aside0 (w119.heap[gb497]? = some (.cells #[.int .i64 a0_0, .slice A0_1 l0_1.length c0_1] 33 (0, 0))) := ⟨h3_⟩
    have n4_ : Aside0 (w119.heap[gb498]? = some (.cells #[.int .i64 a1_0, .slice A1_1 l1_1.length c1_1] 36 (0, 0))) := ⟨h4_⟩
    have n5_ : Aside0 (w119.heap[gb499]? = some (.cells #[.int .i64 a2_0, .slice A2_1 l2_1.length c2_1] 38 (0, 0))) := ⟨h5_⟩
    have n6_ : Aside0 (w119.heap[gb505]? = some (.cells #[.int .i64 t500, .slice Ao20 t501.length co20] 36 (0, 0))) := ⟨h6_⟩
    have n7_ : Aside0 (w119.heap[gb517]? = some (.cells #[.int .i64 0, .slice none 0 0] 36 (0, 0))) := ⟨h7_⟩
    have n8_ : Aside0 (w.heap.size ≤ gb517) := ⟨h8_⟩
    have n9_ : Aside0 (w.heap.size ≤ gb517) := ⟨h9_⟩
    have n10_ : Aside0 (gb497 ≠ gb517) := ⟨h10_⟩
    have n11_ : Aside0 (gb517 ≠ gb497) := ⟨h11_⟩
    have n12_ : Aside0 (gb498 ≠ gb517) := ⟨h12_⟩
    have n13_ : Aside0 (gb517 ≠ gb498) := ⟨h13_⟩
    have n14_ : Aside0 (gb499 ≠ gb517) := ⟨h14_⟩
    have n15_ : Aside0 (gb517 ≠ gb499) := ⟨h15_⟩
    have n16_ : Aside0 (gb505 ≠ gb517) := ⟨h16_⟩
    have n17_ : Aside0 (gb517 ≠ gb505) := ⟨h17_⟩
    have n18_ : Aside0 (Below w.heap.size w w119) := ⟨h18_⟩
    clear HO_506001
    clear BK497
    clear BK498
    clear BK499
    clear BK505
    clear HB
    clear h0_ h1_ h2_ h3_ h4_ h5_ h6_ h7_ h8_ h9_ h10_ h11_ h12_ h13_ h14_ h15_ h16_ h17_ h18_
    have HO511 := n0_
    have HO515 := n1_
    have HO_506001 := n2_
    have BK497 := n3_
    have BK498 := n4_
    have BK499 := n5_
    have BK505 := n6_
    have BK517 := n7_
    have GW517 := n8_
    have GE517 := n9_
    have NB497_517 := n10_
    have NB517_497 := n11_
    have NB498_517 := n12_
    have NB517_498 := n13_
    have NB499_517 := n14_
    have NB517_499 := n15_
    have NB505_517 := n16_
    have NB517_505 := n17_
    have HB := n18_
    clear n0_ n1_ n2_ n3_ n4_ n5_ n6_ n7_ n8_ n9_ n10_ n11_ n12_ n13_ n14_ n15_ n16_ n17_ n18_
    have hHeld : w119.cell? ⟨gb498, 0, none⟩ = some (.int .i64 a1_0) ∧ w119.cell? ⟨gb498, 1, none⟩ = some (.slice A1_1 l1_1.length c1_1) ∧ w119.cell? ⟨gb497, 0, none⟩ = some (.int .i64 a0_0) ∧ w119.cell? ⟨gb497, 1, none⟩ = some (.slice A0_1 l0_1.length c0_1) := hS_
    obtain ⟨Ao121, co121, eo121⟩ := Kd.R_slice HO515.out
    (first | subst eo121 | (injection eo121 with f1_ f2_ f3_; have f4_ := f1_.symm; have f5_ := f3_.symm; clear f1_ f2_ f3_; subst f4_; subst f5_))
    refine norm_ (a' := ?_) ?_ ?_
    rotate_left
    ·simp only [putAll, Act.put, List.setIfInBounds_toArray, List.set_cons_zero, List.set_cons_succ]
     rfl
    refine one_ (i := 9) (N := none) #[true, true, true, true, true, true, true, true, true, true, false] rfl rfl (one_of HT_.out (by kernel_rfl)) (by decide) (fun K hK => ?_)
    have hs120 : w119.cell? ⟨gb517, 0, none⟩ = some (.int .i64 0) := (blk_cell BK517.out 0).trans rfl
    have hfs120 := blk_frozen BK517.out 0
    have hns120_0 := NB497_517.out
    have hns120_1 := NB498_517.out
    have hns120_2 := NB499_517.out
    have hns120_3 := NB505_517.out
    have hms120_0 := NB517_497.out
    have hms120_1 := NB517_498.out
    have hms120_2 := NB517_499.out
    have hms120_3 := NB517_505.out
    have hs122 : w119.cell? ⟨gb517, 1, none⟩ = some (.slice none 0 0) := (blk_cell BK517.out 1).trans rfl
    have hfs122 := blk_frozen BK517.out 1
    have hns122_0 := NB497_517.out
    have hns122_1 := NB498_517.out
    have hns122_2 := NB499_517.out
    have hns122_3 := NB505_517.out
    have hms122_0 := NB517_497.out
    have hms122_1 := NB517_498.out
    have hms122_2 := NB517_499.out
    have hms122_3 := NB517_505.out
    refine skip_ (w1 := ?_) (by rfl) rfl ?_ ?_
    rotate_left
    ·go_simp
     rfl
    refine hK.out _ _ ⟨((cell_far (p := ⟨gb517, _, none⟩) NB498_517.out _).trans (((cell_far (p := ⟨gb517, _, none⟩) NB498_517.out _).trans (hHeld.1)))), ((cell_far (p := ⟨gb517, _, none⟩) NB498_517.out _).trans (((cell_far (p := ⟨gb517, _, none⟩) NB498_517.out _).trans (hHeld.2.1)))), ((cell_far (p := ⟨gb517, _, none⟩) NB497_517.out _).trans (((cell_far (p := ⟨gb517, _, none⟩) NB497_517.out _).trans (hHeld.2.2.1)))), ((cell_far (p := ⟨gb517, _, none⟩) NB497_517.out _).trans (((cell_far (p := ⟨gb517, _, none⟩) NB497_517.out _).trans (hHeld.2.2.2))))⟩ (fun hHeld => ?_)
    clear hK K
    refine pu 10 (some 10) (v := ?_) (a' := ?_) #[true, true, true, true, true, true, true, true, true, true, true] rfl rfl HT_ (fun _ _ _ h => h) (by rfl) ?_ ?_ ?_
    rotate_left
    ·intro w'
     go_simp
     with_reducible rfl
    rotate_left
    ·simp only [Act.put, z1, z2, z3, i64_w, i32_w]
     rfl
    refine done_ (done_of HT_.out (by kernel_rfl)) ?_
    have := NB505_497.out
    have := NB497_505.out
    have := NB505_498.out
    have := NB498_505.out
    have := NB505_499.out
    have := NB499_505.out
    have := NB505_517.out
    have := NB517_505.out
    obtain ⟨_, _, _, _⟩ := cFour BK505
    have := NB499_497.out
    have := NB497_499.out
    have := NB499_498.out
    have := NB498_499.out
    have := NB499_517.out
    have := NB517_499.out
    obtain ⟨_, _, _, _⟩ := cFour BK499
    have := NB517_497.out
    have := NB497_517.out
    have := NB517_498.out
    have := NB498_517.out
    obtain ⟨_, _, _, _⟩ := cFour BK517
    try go_wp2_with (first | ((with_reducible refine gate_callee (f := 69) rfl ?_); refine gl (some 49) rfl rfl Try.func69 (by kernel_rfl) rfl #[.agg #[.int .i64 t500, .slice Ao20 t501.length co20], .int .i64 (wrap64 (-a2_0)), .agg #[.int .i64 t512, .slice Ao121 t513.length co121]] rfl ?_; (with_reducible refine (spec_AddScaled.calls kj4 t500 _ _ t501 (wrap64 (-a2_0)) t512 _ _ t513 t518 t519 false _ ?side1 ?side2 ?side3 ?side4 A46.out).mono ?_); (case side1 => refine (Kd.R_reads' (e := 3) (base := w.heap.size) (ok := fun k_ => (some k_ ≠ (v510 : Value).ownBlock ∧ some k_ ≠ (.slice Ao121 t513.length co121 : Value).ownBlock)) (n := t501.length) (c := co20) ?_).2.2; exact (by (with_reducible repeat (first | apply Kd.R_alloc | apply Kd.R_drewN | apply Kd.R_drew)); exact (rTwo HO_506001 BK517))); (case side2 => exact (Kd.R_reads' HO_506001.out).2.1); (case side3 => refine (Kd.R_reads' (e := 3) (base := w.heap.size) (ok := fun k_ => (some k_ ≠ (v510 : Value).ownBlock ∧ some k_ ≠ (.slice Ao20 t501.length co20 : Value).ownBlock)) (n := t513.length) (c := co121) ?_).2.2; exact (by (with_reducible repeat (first | apply Kd.R_alloc | apply Kd.R_drewN | apply Kd.R_drew)); exact (rTwo HO515 BK517))); (case side4 => exact (Kd.R_reads' HO515.out).2.1); rintro e w135 ⟨v520, rfl, ho0, hb⟩; refine ⟨_, rfl, ?_⟩; have n0_ := Aside0.mk (Kd.R_elder' (by (with_reducible repeat (first | apply Kd.R_alloc | apply Kd.R_drewN | apply Kd.R_drew)); exact (rTwo HO_506001 BK517)) (Kd.R_base ho0) hb); have n1_ := Aside0.mk (Kd.R_elder' (by (with_reducible repeat (first | apply Kd.R_alloc | apply Kd.R_drewN | apply Kd.R_drew)); exact (rTwo HO511 BK517)) (Kd.R_base ho0) hb); have n2_ := Aside0.mk (Kd.R_elder' (by (with_reducible repeat (first | apply Kd.R_alloc | apply Kd.R_drewN | apply Kd.R_drew)); exact (rTwo HO515 BK517)) (Kd.R_base ho0) hb); have n3_ := Aside0.mk (Kd.R_lower (Kd.R_new' (Kd.R_new' (Kd.R_new' ho0 (Kd.R_lt (by (with_reducible repeat (first | apply Kd.R_alloc | apply Kd.R_drewN | apply Kd.R_drew)); exact (rTwo HO_506001 BK517)))) (Kd.R_lt (by (with_reducible repeat (first | apply Kd.R_alloc | apply Kd.R_drewN | apply Kd.R_drew)); exact (rTwo HO511 BK517)))) (Kd.R_lt (by (with_reducible repeat (first | apply Kd.R_alloc | apply Kd.R_drewN | apply Kd.R_drew)); exact (rTwo HO515 BK517)))) (below_size (ms HB))); have n4_ := bf BK497 hb; have n5_ := bf BK498 hb; have n6_ := bf BK499 hb; have n7_ := bf BK505 hb; have n8_ := bp BK517 hb; have n9_ := bs HB hb; clear HO_506001 HO511 HO515 BK497 BK498 BK499 BK505 BK517 HB; have HO_506001 := n0_; have HO511 := n1_; have HO515 := n2_; have HO521 := n3_; have BK497 := n4_; have BK498 := n5_; have BK499 := n6_; have BK505 := n7_; have BK517 := n8_; have HB := n9_; clear n0_ n1_ n2_ n3_ n4_ n5_ n6_ n7_ n8_ n9_; (try clear hb); (try clear ho0)) | ((with_reducible refine gate_dst (N := 11) rfl ?_); refine box_event ?hg (N := 11) ?hd (cs := #[.int .i64 0, .slice none 0 0]) (t := 36) ?hr ?_; (case hd => rfl); (case hg => rfl); (case hr => first | (go_simp; done) | (go_simp; rfl)); intro gb523 hg w136 hbox hb; replace HO_506001 := rb HO_506001 hb; replace HO511 := rb HO511 hb; replace HO515 := rb HO515 hb; replace HO521 := rb HO521 hb; have BK523 := Aside0.mk (hbox); have GW523 := gw hg HB; have GE523 := gw hg HB; replace HB := bs HB hb; have NB497_523 := nl hg BK497; have NB523_497 := ng hg BK497; replace BK497 := bb BK497 hb; have NB498_523 := nl hg BK498; have NB523_498 := ng hg BK498; replace BK498 := bb BK498 hb; have NB499_523 := nl hg BK499; have NB523_499 := ng hg BK499; replace BK499 := bb BK499 hb; have NB505_523 := nl hg BK505; have NB523_505 := ng hg BK505; replace BK505 := bb BK505 hb; have NB517_523 := nl hg BK517; have NB523_517 := ng hg BK517; replace BK517 := bb BK517 hb; clear hb hbox hg; have := NB523_497.out; have := NB497_523.out; have := NB523_498.out; have := NB498_523.out; have := NB523_499.out; have := NB499_523.out; have := NB523_505.out; have := NB505_523.out; have := NB523_517.out; have := NB517_523.out; obtain ⟨_, _, _, _⟩ := cFour BK523; obtain ⟨Ao143, co143, eo143⟩ := Kd.R_slice HO521.out; subst eo143))
    go_ret
    exact ⟨by first | rfl | (simp [errW_none, errW_some] <;> rfl) | (simp [*, errW_none, errW_some] <;> rfl), ms HB⟩
   replace c47 := Bool.eq_false_iff.mpr c47
   subst c47
   have H1 : (some false) = some r := by rw [if_neg (show ¬ (false = true) by decide)] at H; exact H
   clear H
   have H := H1
   clear H1
   obtain rfl := Option.some.inj H
   try go_wp2
   replace HO_506001 := Aside0.mk (Kd.R_drew HO_506001.out)
   replace BK497 := Aside0.mk (blk_drew BK497.out)
   replace BK498 := Aside0.mk (blk_drew BK498.out)
   replace BK499 := Aside0.mk (blk_drew BK499.out)
   replace BK505 := Aside0.mk (blk_drew BK505.out)
   replace HB := Aside0.mk (below_drew1 HB.out)
   refine start_ (n := 11) (S := fun w' => w'.cell? ⟨gb498, 0, none⟩ = some (.int .i64 a1_0) ∧ w'.cell? ⟨gb498, 1, none⟩ = some (.slice A1_1 l1_1.length c1_1) ∧ w'.cell? ⟨gb497, 0, none⟩ = some (.int .i64 a0_0) ∧ w'.cell? ⟨gb497, 1, none⟩ = some (.slice A0_1 l0_1.length c0_1)) (ds := []) #[false, false, false, false, false, false, false, false, false, false, false] (by kernel_rfl) rfl rfl ⟨(c2 BK498).1, (c2 BK498).2, (c2 BK497).1, (c2 BK497).2⟩ (fun hHeld => ?_); refine with_tabW spec_CheckFarkas.tab4 spec_CheckFarkas.bits4 (fun HT_ HW_ => ?_)
   generalize wc.drew = w144 at HO_506001 BK497 BK498 BK499 BK505 HB hHeld ⊢
   refine pu 1 (some 37) (v := ?_) (a' := ?_) #[false, true, false, false, false, false, false, false, false, false, false] rfl rfl HT_ (fun _ _ _ h => h) (by rfl) ?_ ?_ ?_
   rotate_left
   ·intro w'
    go_simp
    with_reducible rfl
   rotate_left
   ·simp only [Act.put, z1, z2, z3, i64_w, i32_w]
    rfl
   refine tk 0 (some 36) (v := ?_) (a' := ?_) #[true, true, false, false, false, false, false, false, false, false, false] rfl rfl HT_ HW_ (fun _ _ _ h => h) (by rfl) ?_ hHeld ?_ ?_
   rotate_left
   ·rintro w' ⟨s0, s1, s2, s3⟩
    go_simp
    with_reducible rfl
   rotate_left
   ·simp only [Act.put, z1, z2, z3, i64_w, i32_w]
    rfl
   refine tk 2 (some 38) (v := ?_) (a' := ?_) #[true, true, true, false, false, false, false, false, false, false, false] rfl rfl HT_ HW_ (fun _ _ _ h => h) (by rfl) ?_ hHeld ?_ ?_
   rotate_left
   ·rintro w' ⟨s0, s1, s2, s3⟩
    go_simp
    with_reducible rfl
   rotate_left
   ·simp only [Act.put, z1, z2, z3, i64_w, i32_w]
    rfl
   refine join_ (σ := Value × Value × Nat) 2 #[true, true, true, true, true, true, true, true, true, false, false] (fun s_ => [(39, .agg #[.int .i64 t508, s_.1]), (40, .tuple #[.agg #[.int .i64 t512, s_.2.1], .bool false]), (9, .pointer (some ⟨s_.2.2, 0, none⟩)), (35, .tuple #[.agg #[.int .i64 t512, s_.2.1], .bool false]), (41, .agg #[.int .i64 t512, s_.2.1]), (42, .bool false)]) (fun s_ w' => (w'.cell? ⟨gb498, 0, none⟩ = some (.int .i64 a1_0) ∧ w'.cell? ⟨gb498, 1, none⟩ = some (.slice A1_1 l1_1.length c1_1) ∧ w'.cell? ⟨gb497, 0, none⟩ = some (.int .i64 a0_0) ∧ w'.cell? ⟨gb497, 1, none⟩ = some (.slice A0_1 l0_1.length c0_1)) ∧ (Kd.R (Kd.int .i64) 3 w' w.heap.size (fun k_ => some k_ ≠ (s_.2.1 : Value).ownBlock ∧ some k_ ≠ (.slice Ao20 t501.length co20 : Value).ownBlock) s_.1 t509) ∧ (Kd.R (Kd.int .i64) 3 w' w.heap.size (fun k_ => some k_ ≠ (s_.1 : Value).ownBlock ∧ some k_ ≠ (.slice Ao20 t501.length co20 : Value).ownBlock) s_.2.1 t513) ∧ (Kd.R (Kd.int .i64) 3 w' w.heap.size (fun k_ => some k_ ≠ (s_.1 : Value).ownBlock ∧ some k_ ≠ (s_.2.1 : Value).ownBlock) (.slice Ao20 t501.length co20) t501) ∧ (w'.heap[gb497]? = some (.cells #[.int .i64 a0_0, .slice A0_1 l0_1.length c0_1] 33 (0, 0))) ∧ (w'.heap[gb498]? = some (.cells #[.int .i64 a1_0, .slice A1_1 l1_1.length c1_1] 36 (0, 0))) ∧ (w'.heap[gb499]? = some (.cells #[.int .i64 a2_0, .slice A2_1 l2_1.length c2_1] 38 (0, 0))) ∧ (w'.heap[gb505]? = some (.cells #[.int .i64 t500, .slice Ao20 t501.length co20] 36 (0, 0))) ∧ (w'.heap[s_.2.2]? = some (.cells #[.int .i64 0, .slice none 0 0] 36 (0, 0))) ∧ (w.heap.size ≤ s_.2.2) ∧ (w.heap.size ≤ s_.2.2) ∧ (gb497 ≠ s_.2.2) ∧ (s_.2.2 ≠ gb497) ∧ (gb498 ≠ s_.2.2) ∧ (s_.2.2 ≠ gb498) ∧ (gb499 ≠ s_.2.2) ∧ (s_.2.2 ≠ gb499) ∧ (gb505 ≠ s_.2.2) ∧ (s_.2.2 ≠ gb505) ∧ (Below w.heap.size w w')) ?_ ?_
   rotate_left
   ·intro hCont
    refine two_ (i := 3) (j := 8) (Ni := some 39) (Nj := some 9) #[true, true, true, true, false, false, false, false, false, false, false] #[true, true, true, false, false, false, false, false, true, false, false] rfl rfl rfl rfl (two_of HT_.out (by kernel_rfl)) (by decide) (by decide) (fun K hK => ?_) (fun K hK => ?_)
    ·skip
     refine gs Try.func44 (by kernel_rfl) rfl #[.int .i64 1, .int .i64 a0_0] (by rfl) rfl rfl ?_
     with_reducible refine (spec_ConstLin.calls 1 a0_0 t508 t509 _ A44.out).mono ?_
     rintro e w145 ⟨v510, rfl, ho0, hb⟩
     refine ⟨_, rfl, ?_⟩
     have HO511 := Aside0.mk (Kd.R_lower (Kd.R_new' ho0 (Kd.R_lt (mr HO_506001))) (below_size (ms HB)))
     replace HO_506001 := rl HO_506001 ho0 hb
     replace BK497 := bb BK497 hb
     replace BK498 := bb BK498 hb
     replace BK499 := bb BK499 hb
     replace BK505 := bb BK505 hb
     replace HB := bs HB hb
     (try clear hb)
     (try clear hb2)
     (try clear hk)
     (try clear hi)
     (try clear ho0)
     obtain ⟨Ao146, co146, eo146⟩ := Kd.R_slice HO511.out
     (first | subst eo146 | (injection eo146 with f1_ f2_ f3_; have f4_ := f1_.symm; have f5_ := f3_.symm; clear f1_ f2_ f3_; subst f4_; subst f5_))
     refine hK.out _ _ ⟨(c2 BK498).1, (c2 BK498).2, (c2 BK497).1, (c2 BK497).2⟩ (fun hHeld => ?_)
     clear hK K
     refine norm_ (a' := ?_) ?_ ?_
     rotate_left
     ·show Act.put _ (some 39) _ = _
      simp only [Act.put, z1, z2, z3, i64_w, i32_w]
      rfl
     refine two_ (i := 4) (j := 8) (Ni := some 40) (Nj := some 9) #[true, true, true, true, true, false, false, false, false, false, false] #[true, true, true, true, false, false, false, false, true, false, false] rfl rfl rfl rfl (two_of HT_.out (by kernel_rfl)) (by decide) (by decide) (fun K hK => ?_) (fun K hK => ?_)
     ·skip
      refine gs Try.func69 (by kernel_rfl) rfl #[.agg #[.int .i64 a1_0, .slice A1_1 l1_1.length c1_1], .int .i64 1, .agg #[.int .i64 t508, .slice Ao146 t509.length co146]] (by rfl) rfl rfl ?_
      with_reducible refine (spec_AddScaled.calls kj4 a1_0 _ _ l1_1 1 t508 _ _ t509 t512 t513 false _ ?side1 ?side2 ?side3 ?side4 A45.out).mono ?_
      (case side1 => exact mc ((Kd.C_below HR1_1.out HB.out)))
      (case side2 => exact HC1_1.out)
      (case side3 => exact mc ((Kd.R_reads' HO511.out).2.2))
      (case side4 => exact (Kd.R_reads' HO511.out).2.1)
      rintro e w147 ⟨v514, rfl, ho0, hb⟩
      refine ⟨_, rfl, ?_⟩
      have HO515 := Aside0.mk (Kd.R_lower (Kd.R_new' (Kd.R_new' ho0 (Kd.R_lt (mr HO_506001))) (Kd.R_lt (mr HO511))) (below_size (ms HB)))
      replace HO_506001 := rl HO_506001 ho0 hb
      replace HO511 := rl HO511 ho0 hb
      replace BK497 := bb BK497 hb
      replace BK498 := bb BK498 hb
      replace BK499 := bb BK499 hb
      replace BK505 := bb BK505 hb
      replace HB := bs HB hb
      (try clear hb)
      (try clear hb2)
      (try clear hk)
      (try clear hi)
      (try clear ho0)
      refine hK.out _ _ ⟨(c2 BK498).1, (c2 BK498).2, (c2 BK497).1, (c2 BK497).2⟩ (fun hHeld => ?_)
      clear hK K
      refine norm_ (a' := ?_) ?_ ?_
      rotate_left
      ·show Act.put _ (some 40) _ = _
       simp only [Act.put, z1, z2, z3, i64_w, i32_w]
       rfl
      refine pu 5 (some 35) (v := ?_) (a' := ?_) #[true, true, true, true, true, true, false, false, false, false, false] rfl rfl HT_ (fun _ _ _ h => h) (by rfl) ?_ ?_ ?_
      rotate_left
      ·intro w'
       go_simp
       with_reducible rfl
      rotate_left
      ·simp only [Act.put, z1, z2, z3, i64_w, i32_w]
       rfl
      refine pu 6 (some 41) (v := ?_) (a' := ?_) #[true, true, true, true, true, true, true, false, false, false, false] rfl rfl HT_ (fun _ _ _ h => h) (by rfl) ?_ ?_ ?_
      rotate_left
      ·intro w'
       go_simp
       with_reducible rfl
      rotate_left
      ·simp only [Act.put, z1, z2, z3, i64_w, i32_w]
       rfl
      refine pu 7 (some 42) (v := ?_) (a' := ?_) #[true, true, true, true, true, true, true, true, false, false, false] rfl rfl HT_ (fun _ _ _ h => h) (by rfl) ?_ ?_ ?_
      rotate_left
      ·intro w'
       go_simp
       with_reducible rfl
      rotate_left
      ·simp only [Act.put, z1, z2, z3, i64_w, i32_w]
       rfl
      refine one_ (i := 8) (N := some 9) #[true, true, true, true, true, true, true, true, true, false, false] rfl rfl (one_of HT_.out (by kernel_rfl)) (by decide) (fun K hK => ?_)
      refine box_step ?hg (N := 9) ?hd (cs := #[.int .i64 0, .slice none 0 0]) (t := 36) ?hr ?_; (case hd => rfl); (case hg => rfl); (case hr => first | (go_simp; done) | (go_simp; rfl))
      intro gb517 hg w148 hbox hb
      replace HO_506001 := rb HO_506001 hb
      replace HO511 := rb HO511 hb
      replace HO515 := rb HO515 hb
      have BK517 := Aside0.mk (hbox)
      have GW517 := gw hg HB
      have GE517 := gw hg HB
      replace HB := bs HB hb
      have NB497_517 := nl hg BK497
      have NB517_497 := ng hg BK497
      replace BK497 := bb BK497 hb
      have NB498_517 := nl hg BK498
      have NB517_498 := ng hg BK498
      replace BK498 := bb BK498 hb
      have NB499_517 := nl hg BK499
      have NB517_499 := ng hg BK499
      replace BK499 := bb BK499 hb
      have NB505_517 := nl hg BK505
      have NB517_505 := ng hg BK505
      replace BK505 := bb BK505 hb
      clear hb hbox hg
      refine hK.out _ _ ⟨(c2 BK498).1, (c2 BK498).2, (c2 BK497).1, (c2 BK497).2⟩ (fun hHeld => ?_)
      clear hK K
      refine norm_ (a' := ?_) ?_ ?_
      rotate_left
      ·show Act.put _ (some 9) _ = _
       simp only [Act.put, z1, z2, z3, i64_w, i32_w]
       rfl
      exact norm_ (by simp only [putAll, Act.put, List.setIfInBounds_toArray, List.set_cons_zero, List.set_cons_succ]) (hCont (.slice Ao146 t509.length co146, v514, gb517) _ ⟨hHeld, (by (with_reducible repeat (first | apply Kd.R_alloc | apply Kd.R_drewN | apply Kd.R_drew)); exact Kd.R_mono HO511.out (fun _ hk => ⟨hk.2, hk.1.2⟩)), (by (with_reducible repeat (first | apply Kd.R_alloc | apply Kd.R_drewN | apply Kd.R_drew)); exact Kd.R_mono HO515.out (fun _ hk => ⟨hk.2, hk.1.2⟩)), (by (with_reducible repeat (first | apply Kd.R_alloc | apply Kd.R_drewN | apply Kd.R_drew)); exact Kd.R_mono HO_506001.out (fun _ hk => ⟨hk.1.2, hk.2⟩)), (mb BK497), (mb BK498), (mb BK499), (mb BK505), (mb BK517), GW517.out, GE517.out, NB497_517.out, NB517_497.out, NB498_517.out, NB517_498.out, NB499_517.out, NB517_499.out, NB505_517.out, NB517_505.out, (ms HB)⟩)
     skip
     refine box_step ?hg (N := 9) ?hd (cs := #[.int .i64 0, .slice none 0 0]) (t := 36) ?hr ?_; (case hd => rfl); (case hg => rfl); (case hr => first | (go_simp; done) | (go_simp; rfl))
     intro gb517 hg w146 hbox hb
     replace HO_506001 := rb HO_506001 hb
     replace HO511 := rb HO511 hb
     have BK517 := Aside0.mk (hbox)
     have GW517 := gw hg HB
     have GE517 := gw hg HB
     replace HB := bs HB hb
     have NB497_517 := nl hg BK497
     have NB517_497 := ng hg BK497
     replace BK497 := bb BK497 hb
     have NB498_517 := nl hg BK498
     have NB517_498 := ng hg BK498
     replace BK498 := bb BK498 hb
     have NB499_517 := nl hg BK499
     have NB517_499 := ng hg BK499
     replace BK499 := bb BK499 hb
     have NB505_517 := nl hg BK505
     have NB517_505 := ng hg BK505
     replace BK505 := bb BK505 hb
     clear hb hbox hg
     obtain ⟨Ao147, co147, eo147⟩ := Kd.R_slice HO511.out
     (first | subst eo147 | (injection eo147 with f1_ f2_ f3_; have f4_ := f1_.symm; have f5_ := f3_.symm; clear f1_ f2_ f3_; subst f4_; subst f5_))
     refine hK.out _ _ ⟨(c2 BK498).1, (c2 BK498).2, (c2 BK497).1, (c2 BK497).2⟩ (fun hHeld => ?_)
     clear hK K
     refine norm_ (a' := ?_) ?_ ?_
     rotate_left
     ·show Act.put _ (some 9) _ = _
      simp only [Act.put, z1, z2, z3, i64_w, i32_w]
      rfl
     refine one_ (i := 4) (N := some 40) #[true, true, true, true, true, false, false, false, true, false, false] rfl rfl (one_of HT_.out (by kernel_rfl)) (by decide) (fun K hK => ?_)
     refine gs Try.func69 (by kernel_rfl) rfl #[.agg #[.int .i64 a1_0, .slice A1_1 l1_1.length c1_1], .int .i64 1, .agg #[.int .i64 t508, .slice Ao147 t509.length co147]] (by rfl) rfl rfl ?_
     with_reducible refine (spec_AddScaled.calls kj4 a1_0 _ _ l1_1 1 t508 _ _ t509 t512 t513 false _ ?side1 ?side2 ?side3 ?side4 A45.out).mono ?_
     (case side1 => exact mc ((Kd.C_below HR1_1.out HB.out)))
     (case side2 => exact HC1_1.out)
     (case side3 => exact mc ((Kd.R_reads' HO511.out).2.2))
     (case side4 => exact (Kd.R_reads' HO511.out).2.1)
     rintro e w148 ⟨v514, rfl, ho0, hb⟩
     refine ⟨_, rfl, ?_⟩
     have HO515 := Aside0.mk (Kd.R_lower (Kd.R_new' (Kd.R_new' ho0 (Kd.R_lt (mr HO_506001))) (Kd.R_lt (mr HO511))) (below_size (ms HB)))
     replace HO_506001 := rl HO_506001 ho0 hb
     replace HO511 := rl HO511 ho0 hb
     replace BK497 := bb BK497 hb
     replace BK498 := bb BK498 hb
     replace BK499 := bb BK499 hb
     replace BK505 := bb BK505 hb
     replace BK517 := bb BK517 hb
     replace HB := bs HB hb
     (try clear hb)
     (try clear hb2)
     (try clear hk)
     (try clear hi)
     (try clear ho0)
     refine hK.out _ _ ⟨(c2 BK498).1, (c2 BK498).2, (c2 BK497).1, (c2 BK497).2⟩ (fun hHeld => ?_)
     clear hK K
     refine norm_ (a' := ?_) ?_ ?_
     rotate_left
     ·show Act.put _ (some 40) _ = _
      simp only [Act.put, z1, z2, z3, i64_w, i32_w]
      rfl
     refine pu 5 (some 35) (v := ?_) (a' := ?_) #[true, true, true, true, true, true, false, false, true, false, false] rfl rfl HT_ (fun _ _ _ h => h) (by rfl) ?_ ?_ ?_
     rotate_left
     ·intro w'
      go_simp
      with_reducible rfl
     rotate_left
     ·simp only [Act.put, z1, z2, z3, i64_w, i32_w]
      rfl
     refine pu 6 (some 41) (v := ?_) (a' := ?_) #[true, true, true, true, true, true, true, false, true, false, false] rfl rfl HT_ (fun _ _ _ h => h) (by rfl) ?_ ?_ ?_
     rotate_left
     ·intro w'
      go_simp
      with_reducible rfl
     rotate_left
     ·simp only [Act.put, z1, z2, z3, i64_w, i32_w]
      rfl
     refine pu 7 (some 42) (v := ?_) (a' := ?_) #[true, true, true, true, true, true, true, true, true, false, false] rfl rfl HT_ (fun _ _ _ h => h) (by rfl) ?_ ?_ ?_
     rotate_left
     ·intro w'
      go_simp
      with_reducible rfl
     rotate_left
     ·simp only [Act.put, z1, z2, z3, i64_w, i32_w]
      rfl
     exact norm_ (by simp only [putAll, Act.put, List.setIfInBounds_toArray, List.set_cons_zero, List.set_cons_succ]) (hCont (.slice Ao147 t509.length co147, v514, gb517) _ ⟨hHeld, (by (with_reducible repeat (first | apply Kd.R_alloc | apply Kd.R_drewN | apply Kd.R_drew)); exact Kd.R_mono HO511.out (fun _ hk => ⟨hk.2, hk.1.2⟩)), (by (with_reducible repeat (first | apply Kd.R_alloc | apply Kd.R_drewN | apply Kd.R_drew)); exact Kd.R_mono HO515.out (fun _ hk => ⟨hk.2, hk.1.2⟩)), (by (with_reducible repeat (first | apply Kd.R_alloc | apply Kd.R_drewN | apply Kd.R_drew)); exact Kd.R_mono HO_506001.out (fun _ hk => ⟨hk.1.2, hk.2⟩)), (mb BK497), (mb BK498), (mb BK499), (mb BK505), (mb BK517), GW517.out, GE517.out, NB497_517.out, NB517_497.out, NB498_517.out, NB517_498.out, NB499_517.out, NB517_499.out, NB505_517.out, NB517_505.out, (ms HB)⟩)
    skip
    refine box_step ?hg (N := 9) ?hd (cs := #[.int .i64 0, .slice none 0 0]) (t := 36) ?hr ?_; (case hd => rfl); (case hg => rfl); (case hr => first | (go_simp; done) | (go_simp; rfl))
    intro gb517 hg w145 hbox hb
    replace HO_506001 := rb HO_506001 hb
    have BK517 := Aside0.mk (hbox)
    have GW517 := gw hg HB
    have GE517 := gw hg HB
    replace HB := bs HB hb
    have NB497_517 := nl hg BK497
    have NB517_497 := ng hg BK497
    replace BK497 := bb BK497 hb
    have NB498_517 := nl hg BK498
    have NB517_498 := ng hg BK498
    replace BK498 := bb BK498 hb
    have NB499_517 := nl hg BK499
    have NB517_499 := ng hg BK499
    replace BK499 := bb BK499 hb
    have NB505_517 := nl hg BK505
    have NB517_505 := ng hg BK505
    replace BK505 := bb BK505 hb
    clear hb hbox hg
    refine hK.out _ _ ⟨(c2 BK498).1, (c2 BK498).2, (c2 BK497).1, (c2 BK497).2⟩ (fun hHeld => ?_)
    clear hK K
    refine norm_ (a' := ?_) ?_ ?_
    rotate_left
    ·show Act.put _ (some 9) _ = _
     simp only [Act.put, z1, z2, z3, i64_w, i32_w]
     rfl
    refine one_ (i := 3) (N := some 39) #[true, true, true, true, false, false, false, false, true, false, false] rfl rfl (one_of HT_.out (by kernel_rfl)) (by decide) (fun K hK => ?_)
    refine gs Try.func44 (by kernel_rfl) rfl #[.int .i64 1, .int .i64 a0_0] (by rfl) rfl rfl ?_
    with_reducible refine (spec_ConstLin.calls 1 a0_0 t508 t509 _ A44.out).mono ?_
    rintro e w146 ⟨v510, rfl, ho0, hb⟩
    refine ⟨_, rfl, ?_⟩
    have HO511 := Aside0.mk (Kd.R_lower (Kd.R_new' ho0 (Kd.R_lt (mr HO_506001))) (below_size (ms HB)))
    replace HO_506001 := rl HO_506001 ho0 hb
    replace BK497 := bb BK497 hb
    replace BK498 := bb BK498 hb
    replace BK499 := bb BK499 hb
    replace BK505 := bb BK505 hb
    replace BK517 := bb BK517 hb
    replace HB := bs HB hb
    (try clear hb)
    (try clear hb2)
    (try clear hk)
    (try clear hi)
    (try clear ho0)
    obtain ⟨Ao147, co147, eo147⟩ := Kd.R_slice HO511.out
    (first | subst eo147 | (injection eo147 with f1_ f2_ f3_; have f4_ := f1_.symm; have f5_ := f3_.symm; clear f1_ f2_ f3_; subst f4_; subst f5_))
    refine hK.out _ _ ⟨(c2 BK498).1, (c2 BK498).2, (c2 BK497).1, (c2 BK497).2⟩ (fun hHeld => ?_)
    clear hK K
    refine norm_ (a' := ?_) ?_ ?_
    rotate_left
    ·show Act.put _ (some 39) _ = _
     simp only [Act.put, z1, z2, z3, i64_w, i32_w]
     rfl
    refine one_ (i := 4) (N := some 40) #[true, true, true, true, true, false, false, false, true, false, false] rfl rfl (one_of HT_.out (by kernel_rfl)) (by decide) (fun K hK => ?_)
    refine gs Try.func69 (by kernel_rfl) rfl #[.agg #[.int .i64 a1_0, .slice A1_1 l1_1.length c1_1], .int .i64 1, .agg #[.int .i64 t508, .slice Ao147 t509.length co147]] (by rfl) rfl rfl ?_
    with_reducible refine (spec_AddScaled.calls kj4 a1_0 _ _ l1_1 1 t508 _ _ t509 t512 t513 false _ ?side1 ?side2 ?side3 ?side4 A45.out).mono ?_
    (case side1 => exact mc ((Kd.C_below HR1_1.out HB.out)))
    (case side2 => exact HC1_1.out)
    (case side3 => exact mc ((Kd.R_reads' HO511.out).2.2))
    (case side4 => exact (Kd.R_reads' HO511.out).2.1)
    rintro e w148 ⟨v514, rfl, ho0, hb⟩
    refine ⟨_, rfl, ?_⟩
    have HO515 := Aside0.mk (Kd.R_lower (Kd.R_new' (Kd.R_new' ho0 (Kd.R_lt (mr HO_506001))) (Kd.R_lt (mr HO511))) (below_size (ms HB)))
    replace HO_506001 := rl HO_506001 ho0 hb
    replace HO511 := rl HO511 ho0 hb
    replace BK497 := bb BK497 hb
    replace BK498 := bb BK498 hb
    replace BK499 := bb BK499 hb
    replace BK505 := bb BK505 hb
    replace BK517 := bb BK517 hb
    replace HB := bs HB hb
    (try clear hb)
    (try clear hb2)
    (try clear hk)
    (try clear hi)
    (try clear ho0)
    refine hK.out _ _ ⟨(c2 BK498).1, (c2 BK498).2, (c2 BK497).1, (c2 BK497).2⟩ (fun hHeld => ?_)
    clear hK K
    refine norm_ (a' := ?_) ?_ ?_
    rotate_left
    ·show Act.put _ (some 40) _ = _
     simp only [Act.put, z1, z2, z3, i64_w, i32_w]
     rfl
    refine pu 5 (some 35) (v := ?_) (a' := ?_) #[true, true, true, true, true, true, false, false, true, false, false] rfl rfl HT_ (fun _ _ _ h => h) (by rfl) ?_ ?_ ?_
    rotate_left
    ·intro w'
     go_simp
     with_reducible rfl
    rotate_left
    ·simp only [Act.put, z1, z2, z3, i64_w, i32_w]
     rfl
    refine pu 6 (some 41) (v := ?_) (a' := ?_) #[true, true, true, true, true, true, true, false, true, false, false] rfl rfl HT_ (fun _ _ _ h => h) (by rfl) ?_ ?_ ?_
    rotate_left
    ·intro w'
     go_simp
     with_reducible rfl
    rotate_left
    ·simp only [Act.put, z1, z2, z3, i64_w, i32_w]
     rfl
    refine pu 7 (some 42) (v := ?_) (a' := ?_) #[true, true, true, true, true, true, true, true, true, false, false] rfl rfl HT_ (fun _ _ _ h => h) (by rfl) ?_ ?_ ?_
    rotate_left
    ·intro w'
     go_simp
     with_reducible rfl
    rotate_left
    ·simp only [Act.put, z1, z2, z3, i64_w, i32_w]
     rfl
    exact norm_ (by simp only [putAll, Act.put, List.setIfInBounds_toArray, List.set_cons_zero, List.set_cons_succ]) (hCont (.slice Ao147 t509.length co147, v514, gb517) _ ⟨hHeld, (by (with_reducible repeat (first | apply Kd.R_alloc | apply Kd.R_drewN | apply Kd.R_drew)); exact Kd.R_mono HO511.out (fun _ hk => ⟨hk.2, hk.1.2⟩)), (by (with_reducible repeat (first | apply Kd.R_alloc | apply Kd.R_drewN | apply Kd.R_drew)); exact Kd.R_mono HO515.out (fun _ hk => ⟨hk.2, hk.1.2⟩)), (by (with_reducible repeat (first | apply Kd.R_alloc | apply Kd.R_drewN | apply Kd.R_drew)); exact Kd.R_mono HO_506001.out (fun _ hk => ⟨hk.1.2, hk.2⟩)), (mb BK497), (mb BK498), (mb BK499), (mb BK505), (mb BK517), GW517.out, GE517.out, NB497_517.out, NB517_497.out, NB498_517.out, NB517_498.out, NB499_517.out, NB517_499.out, NB505_517.out, NB517_505.out, (ms HB)⟩)
   rintro ⟨v510, v514, gb517⟩ w149 ⟨hS_, h0_, h1_, h2_, h3_, h4_, h5_, h6_, h7_, h8_, h9_, h10_, h11_, h12_, h13_, h14_, h15_, h16_, h17_, h18_⟩
   have n0_ : Aside0 (Kd.R (Kd.int .i64) 3 w149 w.heap.size (fun k_ => some k_ ≠ (v514 : Value).ownBlock ∧ some k_ ≠ (.slice Ao20 t501.length co20 : Value).ownBlock) v510 t509) := ⟨h0_⟩
   have n1_ : Aside0 (Kd.R (Kd.int .i64) 3 w149 w.heap.size (fun k_ => some k_ ≠ (v510 : Value).ownBlock ∧ some k_ ≠ (.slice Ao20 t501.length co20 : Value).ownBlock) v514 t513) := ⟨h1_⟩
   have n2_ : Aside0 (Kd.R (Kd.int .i64) 3 w149 w.heap.size (fun k_ => some k_ ≠ (v510 : Value).ownBlock ∧ some k_ ≠ (v514 : Value).ownBlock) (.slice Ao20 t501.length co20) t501) := ⟨h2_⟩
   have n3_ : Aside0 (w149.heap[gb497]? = some (.cells #[.int .i64 a0_0, .slice A0_1 l0_1.length c0_1] 33 (0, 0))) := ⟨h3_⟩
   have n4_ : Aside0 (w149.heap[gb498]? = some (.cells #[.int .i64 a1_0, .slice A1_1 l1_1.length c1_1] 36 (0, 0))) := ⟨h4_⟩
   have n5_ : Aside0 (w149.heap[gb499]? = some (.cells #[.int .i64 a2_0, .slice A2_1 l2_1.length c2_1] 38 (0, 0))) := ⟨h5_⟩
   have n6_ : Aside0 (w149.heap[gb505]? = some (.cells #[.int .i64 t500, .slice Ao20 t501.length co20] 36 (0, 0))) := ⟨h6_⟩
   have n7_ : Aside0 (w149.heap[gb517]? = some (.cells #[.int .i64 0, .slice none 0 0] 36 (0, 0))) := ⟨h7_⟩
   have n8_ : Aside0 (w.heap.size ≤ gb517) := ⟨h8_⟩
   have n9_ : Aside0 (w.heap.size ≤ gb517) := ⟨h9_⟩
   have n10_ : Aside0 (gb497 ≠ gb517) := ⟨h10_⟩
   have n11_ : Aside0 (gb517 ≠ gb497) := ⟨h11_⟩
   have n12_ : Aside0 (gb498 ≠ gb517) := ⟨h12_⟩
   have n13_ : Aside0 (gb517 ≠ gb498) := ⟨h13_⟩
   have n14_ : Aside0 (gb499 ≠ gb517) := ⟨h14_⟩
   have n15_ : Aside0 (gb517 ≠ gb499) := ⟨h15_⟩
   have n16_ : Aside0 (gb505 ≠ gb517) := ⟨h16_⟩
   have n17_ : Aside0 (gb517 ≠ gb505) := ⟨h17_⟩
   have n18_ : Aside0 (Below w.heap.size w w149) := ⟨h18_⟩
   clear HO_506001
   clear BK497
   clear BK498
   clear BK499
   clear BK505
   clear HB
   clear h0_ h1_ h2_ h3_ h4_ h5_ h6_ h7_ h8_ h9_ h10_ h11_ h12_ h13_ h14_ h15_ h16_ h17_ h18_
   have HO511 := n0_
   have HO515 := n1_
   have HO_506001 := n2_
   have BK497 := n3_
   have BK498 := n4_
   have BK499 := n5_
   have BK505 := n6_
   have BK517 := n7_
   have GW517 := n8_
   have GE517 := n9_
   have NB497_517 := n10_
   have NB517_497 := n11_
   have NB498_517 := n12_
   have NB517_498 := n13_
   have NB499_517 := n14_
   have NB517_499 := n15_
   have NB505_517 := n16_
   have NB517_505 := n17_
   have HB := n18_
   clear n0_ n1_ n2_ n3_ n4_ n5_ n6_ n7_ n8_ n9_ n10_ n11_ n12_ n13_ n14_ n15_ n16_ n17_ n18_
   have hHeld : w149.cell? ⟨gb498, 0, none⟩ = some (.int .i64 a1_0) ∧ w149.cell? ⟨gb498, 1, none⟩ = some (.slice A1_1 l1_1.length c1_1) ∧ w149.cell? ⟨gb497, 0, none⟩ = some (.int .i64 a0_0) ∧ w149.cell? ⟨gb497, 1, none⟩ = some (.slice A0_1 l0_1.length c0_1) := hS_
   obtain ⟨Ao151, co151, eo151⟩ := Kd.R_slice HO515.out
   (first | subst eo151 | (injection eo151 with f1_ f2_ f3_; have f4_ := f1_.symm; have f5_ := f3_.symm; clear f1_ f2_ f3_; subst f4_; subst f5_))
   refine norm_ (a' := ?_) ?_ ?_
   rotate_left
   ·simp only [putAll, Act.put, List.setIfInBounds_toArray, List.set_cons_zero, List.set_cons_succ]
    rfl
   refine one_ (i := 9) (N := none) #[true, true, true, true, true, true, true, true, true, true, false] rfl rfl (one_of HT_.out (by kernel_rfl)) (by decide) (fun K hK => ?_)
   have hs150 : w149.cell? ⟨gb517, 0, none⟩ = some (.int .i64 0) := (blk_cell BK517.out 0).trans rfl
   have hfs150 := blk_frozen BK517.out 0
   have hns150_0 := NB497_517.out
   have hns150_1 := NB498_517.out
   have hns150_2 := NB499_517.out
   have hns150_3 := NB505_517.out
   have hms150_0 := NB517_497.out
   have hms150_1 := NB517_498.out
   have hms150_2 := NB517_499.out
   have hms150_3 := NB517_505.out
   have hs152 : w149.cell? ⟨gb517, 1, none⟩ = some (.slice none 0 0) := (blk_cell BK517.out 1).trans rfl
   have hfs152 := blk_frozen BK517.out 1
   have hns152_0 := NB497_517.out
   have hns152_1 := NB498_517.out
   have hns152_2 := NB499_517.out
   have hns152_3 := NB505_517.out
   have hms152_0 := NB517_497.out
   have hms152_1 := NB517_498.out
   have hms152_2 := NB517_499.out
   have hms152_3 := NB517_505.out
   refine skip_ (w1 := ?_) (by rfl) rfl ?_ ?_
   rotate_left
   ·go_simp
    rfl
   refine hK.out _ _ ⟨((cell_far (p := ⟨gb517, _, none⟩) NB498_517.out _).trans (((cell_far (p := ⟨gb517, _, none⟩) NB498_517.out _).trans (hHeld.1)))), ((cell_far (p := ⟨gb517, _, none⟩) NB498_517.out _).trans (((cell_far (p := ⟨gb517, _, none⟩) NB498_517.out _).trans (hHeld.2.1)))), ((cell_far (p := ⟨gb517, _, none⟩) NB497_517.out _).trans (((cell_far (p := ⟨gb517, _, none⟩) NB497_517.out _).trans (hHeld.2.2.1)))), ((cell_far (p := ⟨gb517, _, none⟩) NB497_517.out _).trans (((cell_far (p := ⟨gb517, _, none⟩) NB497_517.out _).trans (hHeld.2.2.2))))⟩ (fun hHeld => ?_)
   clear hK K
   refine pu 10 (some 10) (v := ?_) (a' := ?_) #[true, true, true, true, true, true, true, true, true, true, true] rfl rfl HT_ (fun _ _ _ h => h) (by rfl) ?_ ?_ ?_
   rotate_left
   ·intro w'
    go_simp
    with_reducible rfl
   rotate_left
   ·simp only [Act.put, z1, z2, z3, i64_w, i32_w]
    rfl
   refine done_ (done_of HT_.out (by kernel_rfl)) ?_
   have := NB505_497.out
   have := NB497_505.out
   have := NB505_498.out
   have := NB498_505.out
   have := NB505_499.out
   have := NB499_505.out
   have := NB505_517.out
   have := NB517_505.out
   obtain ⟨_, _, _, _⟩ := cFour BK505
   have := NB499_497.out
   have := NB497_499.out
   have := NB499_498.out
   have := NB498_499.out
   have := NB499_517.out
   have := NB517_499.out
   obtain ⟨_, _, _, _⟩ := cFour BK499
   have := NB517_497.out
   have := NB497_517.out
   have := NB517_498.out
   have := NB498_517.out
   obtain ⟨_, _, _, _⟩ := cFour BK517
   try go_wp2_with (first | ((with_reducible refine gate_callee (f := 69) rfl ?_); refine gl (some 49) rfl rfl Try.func69 (by kernel_rfl) rfl #[.agg #[.int .i64 t500, .slice Ao20 t501.length co20], .int .i64 (wrap64 (-a2_0)), .agg #[.int .i64 t512, .slice Ao151 t513.length co151]] rfl ?_; (with_reducible refine (spec_AddScaled.calls kj4 t500 _ _ t501 (wrap64 (-a2_0)) t512 _ _ t513 t518 t519 t522 _ ?side1 ?side2 ?side3 ?side4 A46.out).mono ?_); (case side1 => refine (Kd.R_reads' (e := 3) (base := w.heap.size) (ok := fun k_ => (some k_ ≠ (v510 : Value).ownBlock ∧ some k_ ≠ (.slice Ao151 t513.length co151 : Value).ownBlock)) (n := t501.length) (c := co20) ?_).2.2; exact (by (with_reducible repeat (first | apply Kd.R_alloc | apply Kd.R_drewN | apply Kd.R_drew)); exact (rTwo HO_506001 BK517))); (case side2 => exact (Kd.R_reads' HO_506001.out).2.1); (case side3 => refine (Kd.R_reads' (e := 3) (base := w.heap.size) (ok := fun k_ => (some k_ ≠ (v510 : Value).ownBlock ∧ some k_ ≠ (.slice Ao20 t501.length co20 : Value).ownBlock)) (n := t513.length) (c := co151) ?_).2.2; exact (by (with_reducible repeat (first | apply Kd.R_alloc | apply Kd.R_drewN | apply Kd.R_drew)); exact (rTwo HO515 BK517))); (case side4 => exact (Kd.R_reads' HO515.out).2.1); rintro e w165 ⟨v520, rfl, ho0, hb⟩; refine ⟨_, rfl, ?_⟩; have n0_ := Aside0.mk (Kd.R_elder' (by (with_reducible repeat (first | apply Kd.R_alloc | apply Kd.R_drewN | apply Kd.R_drew)); exact (rTwo HO_506001 BK517)) (Kd.R_base ho0) hb); have n1_ := Aside0.mk (Kd.R_elder' (by (with_reducible repeat (first | apply Kd.R_alloc | apply Kd.R_drewN | apply Kd.R_drew)); exact (rTwo HO511 BK517)) (Kd.R_base ho0) hb); have n2_ := Aside0.mk (Kd.R_elder' (by (with_reducible repeat (first | apply Kd.R_alloc | apply Kd.R_drewN | apply Kd.R_drew)); exact (rTwo HO515 BK517)) (Kd.R_base ho0) hb); have n3_ := Aside0.mk (Kd.R_lower (Kd.R_new' (Kd.R_new' (Kd.R_new' ho0 (Kd.R_lt (by (with_reducible repeat (first | apply Kd.R_alloc | apply Kd.R_drewN | apply Kd.R_drew)); exact (rTwo HO_506001 BK517)))) (Kd.R_lt (by (with_reducible repeat (first | apply Kd.R_alloc | apply Kd.R_drewN | apply Kd.R_drew)); exact (rTwo HO511 BK517)))) (Kd.R_lt (by (with_reducible repeat (first | apply Kd.R_alloc | apply Kd.R_drewN | apply Kd.R_drew)); exact (rTwo HO515 BK517)))) (below_size (ms HB))); have n4_ := bf BK497 hb; have n5_ := bf BK498 hb; have n6_ := bf BK499 hb; have n7_ := bf BK505 hb; have n8_ := bp BK517 hb; have n9_ := bs HB hb; clear HO_506001 HO511 HO515 BK497 BK498 BK499 BK505 BK517 HB; have HO_506001 := n0_; have HO511 := n1_; have HO515 := n2_; have HO521 := n3_; have BK497 := n4_; have BK498 := n5_; have BK499 := n6_; have BK505 := n7_; have BK517 := n8_; have HB := n9_; clear n0_ n1_ n2_ n3_ n4_ n5_ n6_ n7_ n8_ n9_; (try clear hb); (try clear ho0)) | ((with_reducible refine gate_dst (N := 11) rfl ?_); refine box_event ?hg (N := 11) ?hd (cs := #[.int .i64 0, .slice none 0 0]) (t := 36) ?hr ?_; (case hd => rfl); (case hg => rfl); (case hr => first | (go_simp; done) | (go_simp; rfl)); intro gb523 hg w166 hbox hb; replace HO_506001 := rb HO_506001 hb; replace HO511 := rb HO511 hb; replace HO515 := rb HO515 hb; replace HO521 := rb HO521 hb; have BK523 := Aside0.mk (hbox); have GW523 := gw hg HB; have GE523 := gw hg HB; replace HB := bs HB hb; have NB497_523 := nl hg BK497; have NB523_497 := ng hg BK497; replace BK497 := bb BK497 hb; have NB498_523 := nl hg BK498; have NB523_498 := ng hg BK498; replace BK498 := bb BK498 hb; have NB499_523 := nl hg BK499; have NB523_499 := ng hg BK499; replace BK499 := bb BK499 hb; have NB505_523 := nl hg BK505; have NB523_505 := ng hg BK505; replace BK505 := bb BK505 hb; have NB517_523 := nl hg BK517; have NB523_517 := ng hg BK517; replace BK517 := bb BK517 hb; clear hb hbox hg; have := NB523_497.out; have := NB497_523.out; have := NB523_498.out; have := NB498_523.out; have := NB523_499.out; have := NB499_523.out; have := NB523_505.out; have := NB505_523.out; have := NB523_517.out; have := NB517_523.out; obtain ⟨_, _, _, _⟩ := cFour BK523; obtain ⟨Ao173, co173, eo173⟩ := Kd.R_slice HO521.out; subst eo173))
   go_ret
   exact ⟨by first | rfl | (simp [errW_none, errW_some] <;> rfl) | (simp [*, errW_none, errW_some] <;> rfl), ms HB⟩

end Go.Proofs.Ytelgmnlkkhikfaa.QFnFarkas
