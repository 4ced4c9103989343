-- Made by a program of this claim's own (wip/print): not the kit's print as it stands.
import Derived.Test.YtelgmnlkkhikfaaUFnFarkasTri
import Derived.Test.YtelgmnlkkhikfaaQFnFarkasx0
import Derived.Test.YtelgmnlkkhikfaaQFnFarkasx12
import Derived.Test.YtelgmnlkkhikfaaQFnFarkasx13
namespace Go.Proofs.Ytelgmnlkkhikfaa.QFnFarkas
open Go.RowKit Go.Proofs.YtelgmnlkkhikfaaV.PrintWords Go.Proofs.YtelgmnlkkhikfaaV.PrintLast Go.Proofs.YtelgmnlkkhikfaaV.PrintMore
attribute [local go_sem] max2_int min2_int max_two min_two max_three min_three max_four min_four   -- for this text's walks alone
set_option linter.unusedVariables false
set_option linter.unusedSimpArgs false

/-! ### impl_CombineRows: function 64 -/
mutual
def impl_CombineRows.j0 : Nat → List Int → Bool → Int → List (S36) → Option (Int × List Int × Bool)
 | 0, _, _, _, _ => none
 | k + 1, x1, x24, x429000, x429001 => if x24 = true then (some (0, ([] : List Int), false)) else ((impl_ConstLin.f 0 x429000).bind fun bt432 => (impl_CombineRows.l0 k x1 (x1.length : Int) 0 x429000 x429001 bt432.1 bt432.2))
def impl_CombineRows.l0 : Nat → List Int → Int → Int → Int → List (S36) → Int → List Int → Option (Int × List Int × Bool)
 | 0, _, _, _, _, _, _, _ => none
 | k + 1, x29, x30, x31, x429000, x429001, x437000, x437001 => if x31 < x30 then (if 0 ≤ x31 then (if x31 < (x29.length : Int) then (if x31 < (x429001.length : Int) then ((impl_AddScaled.f k x437000 x437001 (rd x29 x31) ((rd_T36 x429001 x31).f0) ((rd_T36 x429001 x31).f1)).bind fun bt439 => (if bt439.2.2 = true then (impl_CombineRows.l0 k x29 x30 (wrap64 (x31 + 1)) x429000 x429001 bt439.1 bt439.2.1) else (some (0, ([] : List Int), false)))) else (none)) else (none)) else (none)) else (some (x437000, x437001, true))
end
def impl_CombineRows.f (k : Nat) (a0_0 : Int) (l0_1 : List (S36)) (l1 : List Int) : Option (Int × List Int × Bool) := (impl_IsValidSystem.f k a0_0 l0_1).bind fun t430 => (if t430 = true then (if (l1.length : Int) = (l0_1.length : Int) then ((slices_ContainsFunc_int_int__CombineRows_1.f k l1 ()).bind fun t431 => (impl_CombineRows.j0 k l1 t431 a0_0 l0_1)) else (impl_CombineRows.j0 k l1 true a0_0 l0_1)) else (impl_CombineRows.j0 k l1 true a0_0 l0_1))
theorem impl_CombineRows.mono_l : ∀ k, (∀ y0 y1 y2 y3, LeO (impl_CombineRows.j0 k y0 y1 y2 y3) (impl_CombineRows.j0 (k + 1) y0 y1 y2 y3)) ∧ (∀ y0 y1 y2 y3 y4 y5 y6, LeO (impl_CombineRows.l0 k y0 y1 y2 y3 y4 y5 y6) (impl_CombineRows.l0 (k + 1) y0 y1 y2 y3 y4 y5 y6))
 | 0 => ⟨fun _ _ _ _ r h => by simp [impl_CombineRows.j0] at h, fun _ _ _ _ _ _ _ r h => by simp [impl_CombineRows.l0] at h⟩
 | k + 1 => by
  obtain ⟨ih0, ih1⟩ := impl_CombineRows.mono_l k
  refine ⟨?_, ?_⟩
  ·intro y0 y1 y2 y3
   unfold impl_CombineRows.j0
   repeat' with_reducible first
   | exact ih0 _ _ _ _
   | exact ih1 _ _ _ _ _ _ _
   | exact impl_AddScaled.mono _ _ _ _ _ _
   | exact impl_IsValidSystem.mono _ _ _
   | exact slices_ContainsFunc_int_int__CombineRows_1.mono _ _ _
   | exact LeO.refl _
   | exact LeO.none _
   | refine LeO.ite ?_ ?_
   | refine LeO.bind ?_ (fun _ => ?_)
  intro y0 y1 y2 y3 y4 y5 y6
  unfold impl_CombineRows.l0
  repeat' with_reducible first
  | exact ih0 _ _ _ _
  | exact ih1 _ _ _ _ _ _ _
  | exact impl_AddScaled.mono _ _ _ _ _ _
  | exact impl_IsValidSystem.mono _ _ _
  | exact slices_ContainsFunc_int_int__CombineRows_1.mono _ _ _
  | exact LeO.refl _
  | exact LeO.none _
  | refine LeO.ite ?_ ?_
  | refine LeO.bind ?_ (fun _ => ?_)
theorem impl_CombineRows.mono : ∀ a0 a1 a2 k, LeO (impl_CombineRows.f k a0 a1 a2) (impl_CombineRows.f (k + 1) a0 a1 a2) := by
 intro a0 a1 a2 k
 obtain ⟨ih0, ih1⟩ := impl_CombineRows.mono_l k
 unfold impl_CombineRows.f
 repeat' with_reducible first
 | exact ih0 _ _ _ _
 | exact ih1 _ _ _ _ _ _ _
 | exact impl_AddScaled.mono _ _ _ _ _ _
 | exact impl_IsValidSystem.mono _ _ _
 | exact slices_ContainsFunc_int_int__CombineRows_1.mono _ _ _
 | exact LeO.refl _
 | exact LeO.none _
 | refine LeO.ite ?_ ?_
 | refine LeO.bind ?_ (fun _ => ?_)
def impl_CombineRows.T8 : Bool × List (List Nat × List Nat) := (true, [([], []), ([], []), ([], []), ([2], [2]), ([], []), ([3, 4], [3, 4]), ([5], [5]), ([0, 1, 6], [0, 1, 6]), ([7], [7]), ([8], [8]), ([8], [8]), ([9, 7, 0, 1, 2, 3, 4, 5, 6, 7, 8, 9], [9]), ([10, 11, 0, 1, 2, 3, 4, 5, 6, 7, 8, 9, 10, 11], [10])])
def impl_CombineRows.B8 : List Nat := [0, 0, 0, 4, 0, 28, 60, 127, 255, 511, 511, 1023, 4095]
theorem impl_CombineRows.tab8 : rtab .any (opsOf Try.f64 8) = impl_CombineRows.T8 := by kernel_rfl
theorem impl_CombineRows.bits8 : waitsOk impl_CombineRows.T8.2 impl_CombineRows.B8 = true := by kernel_rfl
set_option maxHeartbeats 8000000 in
set_option maxRecDepth 100000 in
theorem impl_CombineRows.calls (k : Nat) (a0_0 : Int) (A0_1 : Option Addr) (c0_1 : Nat) (l0_1 : List (S36)) (A1 : Option Addr) (c1 : Nat) (l1 : List Int) (r1 : Int) (r2 : List Int) (r3 : Bool) (w : World) (hr0_1 : Kd.C k36 w A0_1 l0_1.length l0_1) (hc0_1 : l0_1.length ≤ c0_1) (hr1 : Kd.C (Kd.int .i64) w A1 l1.length l1) (hc1 : l1.length ≤ c1) (h : impl_CombineRows.f k a0_0 l0_1 l1 = some (r1, r2, r3)) :
  Calls Try.prog 64 #[.agg #[.int .i64 a0_0, .slice A0_1 l0_1.length c0_1], .slice A1 l1.length c1] w fun e w' => ∃ v1_ : Value, e = .returned (.tuple #[.agg #[.int .i64 r1, v1_], .bool r3]) ∧ Kd.R (Kd.int .i64) 3 w' w.heap.size (fun _ => True) v1_ r2 ∧ Below w.heap.size w w' := by
 have hu33 := Try.underlying33
 have hu36 := Try.underlying36
 have HR0_1 := Aside0.mk hr0_1
 have HC0_1 := Aside0.mk hc0_1
 clear hr0_1 hc0_1
 have HR1 := Aside0.mk hr1
 have HC1 := Aside0.mk hc1
 clear hr1 hc1
 have HB := Aside0.mk (Below.refl w.heap.size w)
 have H : ((impl_IsValidSystem.f k a0_0 l0_1).bind fun t430 => (if t430 = true then (if (l1.length : Int) = (l0_1.length : Int) then ((slices_ContainsFunc_int_int__CombineRows_1.f k l1 ()).bind fun t431 => (impl_CombineRows.j0 k l1 t431 a0_0 l0_1)) else (impl_CombineRows.j0 k l1 true a0_0 l0_1)) else (impl_CombineRows.j0 k l1 true a0_0 l0_1))) = some (r1, r2, r3) := h
 clear h
 have HC3 := Aside0.mk H
 clear H
 go_enter Try.func64, Try.ntmps64
 go_upto_region 1 with (first | ((with_reducible refine gate_dst (N := 2) rfl ?_); refine box_event ?hg (N := 2) ?hd (cs := #[.int .i64 a0_0, .slice A0_1 l0_1.length c0_1]) (t := 33) ?hr ?_; (case hd => rfl); (case hg => rfl); (case hr => first | (go_simp; done) | (go_simp; rfl)); intro gb428 hg w4 hbox hb; have BK428 := Aside0.mk (hbox); have GW428 := gw hg HB; have GE428 := gw hg HB; replace HB := bs HB hb; clear hb hbox hg) | ((with_reducible refine gate_dst (N := 4) rfl ?_); refine box_event ?hg (N := 4) ?hd (cs := #[.int .i64 0, .slice none 0 0]) (t := 36) ?hr ?_; (case hd => rfl); (case hg => rfl); (case hr => first | (go_simp; done) | (go_simp; rfl)); intro gb429 hg w5 hbox hb; have BK429 := Aside0.mk (hbox); have GW429 := gw hg HB; have GE429 := gw hg HB; replace HB := bs HB hb; have NB428_429 := nl hg BK428; have NB429_428 := ng hg BK428; replace BK428 := bb BK428 hb; clear hb hbox hg))
 (try simp only [Act.put, List.setIfInBounds_toArray, List.set_cons_zero, List.set_cons_succ])
 go_cut [24] (fun v24 wc => ∃ (kq : Nat) (x24_2 : Bool), v24 = .bool x24_2 ∧ Aside0 (impl_CombineRows.j0 kq l1 x24_2 a0_0 l0_1 = some (r1, r2, r3)) ∧ Aside0 (kq ≤ k) ∧ Aside0 (wc.heap[gb428]? = some (.cells #[.int .i64 a0_0, (.slice A0_1 l0_1.length c0_1)] 33 (0, 0))) ∧ Aside0 (wc.heap[gb429]? = some (.cells #[.int .i64 0, (.slice none 0 0)] 36 (0, 0))) ∧ Aside0 (Below w.heap.size w wc))
 case first =>
  have H := HC3.out
  clear HC3
  replace H := Option.bind_eq_some_iff.mp H
  obtain ⟨t430, A60, H⟩ := H
  replace H : (if t430 = true then (if (l1.length : Int) = (l0_1.length : Int) then ((slices_ContainsFunc_int_int__CombineRows_1.f k l1 ()).bind fun t431 => (impl_CombineRows.j0 k l1 t431 a0_0 l0_1)) else (impl_CombineRows.j0 k l1 true a0_0 l0_1)) else (impl_CombineRows.j0 k l1 true a0_0 l0_1)) = some (r1, r2, r3) := H
  have A6 := Aside0.mk A60
  clear A60
  by_cases c7 : t430 = true
  ·subst c7
   have H1 : (if (l1.length : Int) = (l0_1.length : Int) then ((slices_ContainsFunc_int_int__CombineRows_1.f k l1 ()).bind fun t431 => (impl_CombineRows.j0 k l1 t431 a0_0 l0_1)) else (impl_CombineRows.j0 k l1 true a0_0 l0_1)) = some (r1, r2, r3) := by rw [if_pos rfl] at H; exact H
   clear H
   have H := H1
   clear H1
   by_cases c8 : (l1.length : Int) = (l0_1.length : Int)
   ·rw [if_pos c8] at H
    have c8b0 : ((l1.length : Int) == (l0_1.length : Int)) = true := beq_iff_eq.mpr c8
    have c8b1 : ((l1.length : Int) != (l0_1.length : Int)) = false := bne_eq_false_iff_eq.mpr c8
    have c8b2 : (l1.length == l0_1.length) = true := by first | simpa using c8 | (simp at c8 ⊢; omega)
    clear c8
    (first | rw [c8b0] | (simp only [i64_w, i32_w]; rw [c8b0]) | skip)
    replace H := Option.bind_eq_some_iff.mp H
    obtain ⟨t431, A90, H⟩ := H
    replace H : (impl_CombineRows.j0 k l1 t431 a0_0 l0_1) = some (r1, r2, r3) := H
    have A9 := Aside0.mk A90
    clear A90
    have H' := Aside0.mk H
    clear H
    have := NB428_429.out
    have := NB429_428.out
    obtain ⟨hcz11_0, hcz11_1, hfz11_0, hfz11_1⟩ := cFour BK428
    go_wp2_with (first | ((with_reducible refine gate_callee (f := 62) rfl ?_); refine gl (some 11) rfl rfl Try.func62 (by kernel_rfl) rfl #[.agg #[.int .i64 a0_0, .slice A0_1 l0_1.length c0_1]] rfl ?_; (with_reducible refine (impl_IsValidSystem.calls k a0_0 _ _ l0_1 true _ ?side1 ?side2 A6.out).mono ?_); (case side1 => exact mc ((Kd.C_below HR0_1.out HB.out))); (case side2 => exact HC0_1.out); rintro e w12 ⟨rfl, hb⟩; refine ⟨_, rfl, ?_⟩; replace BK428 := bb BK428 hb; replace BK429 := bb BK429 hb; replace HB := bs HB hb; (try clear hb); obtain ⟨hcz13_0, hcz13_1, hfz13_0, hfz13_1⟩ := cFour BK428) | (go_at_call 86; (with_reducible refine (slices_ContainsFunc_int_int__CombineRows_1.calls k _ _ l1 () t431 _ ?side1 ?side2 A9.out).mono ?_); (case side1 => exact mc ((Kd.C_below HR1.out HB.out))); (case side2 => exact HC1.out); rintro e w' ⟨rfl, ⟨nd, rfl⟩⟩))
    go_meet
    case rel => exact ⟨_, (t431), (by first | rfl | (simp; done) | (simp [*]; done)), H', ⟨by first | omega | exact Nat.le_refl _⟩, ⟨mb BK428⟩, ⟨mb BK429⟩, ⟨ms HB⟩⟩
   rw [if_neg c8] at H
   have c8b0 : ((l1.length : Int) == (l0_1.length : Int)) = false := beq_eq_false_iff_ne.mpr c8
   have c8b1 : ((l1.length : Int) != (l0_1.length : Int)) = true := bne_iff_ne.mpr c8
   have c8b2 : (l1.length == l0_1.length) = false := by first | simpa using c8 | (simp at c8 ⊢; omega)
   (first | rw [c8b0] | (simp only [i64_w, i32_w]; rw [c8b0]) | skip)
   have H' := Aside0.mk H
   clear H
   have := NB428_429.out
   have := NB429_428.out
   obtain ⟨hcz15_0, hcz15_1, hfz15_0, hfz15_1⟩ := cFour BK428
   go_wp2_with (first | ((with_reducible refine gate_callee (f := 62) rfl ?_); refine gl (some 11) rfl rfl Try.func62 (by kernel_rfl) rfl #[.agg #[.int .i64 a0_0, .slice A0_1 l0_1.length c0_1]] rfl ?_; (with_reducible refine (impl_IsValidSystem.calls k a0_0 _ _ l0_1 true _ ?side1 ?side2 A6.out).mono ?_); (case side1 => exact mc ((Kd.C_below HR0_1.out HB.out))); (case side2 => exact HC0_1.out); rintro e w16 ⟨rfl, hb⟩; refine ⟨_, rfl, ?_⟩; replace BK428 := bb BK428 hb; replace BK429 := bb BK429 hb; replace HB := bs HB hb; (try clear hb); obtain ⟨hcz17_0, hcz17_1, hfz17_0, hfz17_1⟩ := cFour BK428))
   go_meet
   case rel => exact ⟨_, (true), (by first | rfl | (simp; done) | (simp [*]; done)), H', ⟨by first | omega | exact Nat.le_refl _⟩, ⟨mb BK428⟩, ⟨mb BK429⟩, ⟨ms HB⟩⟩
  replace c7 := Bool.eq_false_iff.mpr c7
  subst c7
  have H1 : (impl_CombineRows.j0 k l1 true a0_0 l0_1) = some (r1, r2, r3) := by rw [if_neg (show ¬ (false = true) by decide)] at H; exact H
  clear H
  have H := H1
  clear H1
  have H' := Aside0.mk H
  clear H
  have := NB428_429.out
  have := NB429_428.out
  obtain ⟨hcz19_0, hcz19_1, hfz19_0, hfz19_1⟩ := cFour BK428
  go_wp2_with (first | ((with_reducible refine gate_callee (f := 62) rfl ?_); refine gl (some 11) rfl rfl Try.func62 (by kernel_rfl) rfl #[.agg #[.int .i64 a0_0, .slice A0_1 l0_1.length c0_1]] rfl ?_; (with_reducible refine (impl_IsValidSystem.calls k a0_0 _ _ l0_1 false _ ?side1 ?side2 A6.out).mono ?_); (case side1 => exact mc ((Kd.C_below HR0_1.out HB.out))); (case side2 => exact HC0_1.out); rintro e w20 ⟨rfl, hb⟩; refine ⟨_, rfl, ?_⟩; replace BK428 := bb BK428 hb; replace BK429 := bb BK429 hb; replace HB := bs HB hb; (try clear hb)))
  go_meet
  case rel => exact ⟨_, (true), (by first | rfl | (simp; done) | (simp [*]; done)), H', ⟨by first | omega | exact Nat.le_refl _⟩, ⟨mb BK428⟩, ⟨mb BK429⟩, ⟨ms HB⟩⟩
 case rest =>
  clear HC3
  try clear c1
  try clear p2
  try clear c6
  try clear c7
  try clear c8
  try clear c8b0
  try clear c8b1
  try clear c8b2
  try clear c10
  try clear c14
  try clear c18
  try clear hcz11_0
  try clear hcz11_1
  try clear hcz13_0
  try clear hcz13_1
  try clear hcz15_0
  try clear hcz15_1
  try clear hcz17_0
  try clear hcz17_1
  try clear hcz19_0
  try clear hcz19_1
  try clear hfz11_0
  try clear hfz11_1
  try clear hfz13_0
  try clear hfz13_1
  try clear hfz15_0
  try clear hfz15_1
  try clear hfz17_0
  try clear hfz17_1
  try clear hfz19_0
  try clear hfz19_1
  obtain ⟨kq, x24_2, rfl, HA, HJ2, BK428, BK429, HB⟩ := hcut
  cases kq with
  | zero => exact absurd HA.out (by simp [impl_CombineRows.j0])
  | succ kj2 =>
   have H := HA.out
   clear HA
   simp only [impl_CombineRows.j0] at H
   by_cases c21 : x24_2 = true
   ·subst c21
    have H1 : (some (0, ([] : List Int), false)) = some (r1, r2, r3) := by rw [if_pos rfl] at H; exact H
    clear H
    have H := H1
    clear H1
    simp only [Option.some.injEq, Prod.mk.injEq] at H
    obtain ⟨rfl, rfl, rfl⟩ := H
    have := NB429_428.out
    have := NB428_429.out
    obtain ⟨hcz23_0, hcz23_1, hfz23_0, hfz23_1⟩ := cFour BK429
    go_wp2
    refine bodyPost_ret (results_ct rfl _ _ gb429 36 #[.int .i64 0, .slice none 0 0] (0, 0) _ rfl (mq BK429) Try.underlying36 rfl (by kernel_rfl)) rfl ?_
    exact ⟨_, by first | rfl | (simp [errW_none, errW_some] <;> rfl) | (simp [*, errW_none, errW_some] <;> rfl), by first | exact Kd.R_nil _ _ _ _ _ | exact Kd.N_nil _ _ _ _ _ | exact Kd.V_nil _ _ _ _ _ | exact Kd.Q_nil _ _ _ _ _ | exact Kd.S_nil _ _ _ _ _, ms HB⟩
   replace c21 := Bool.eq_false_iff.mpr c21
   subst c21
   have H1 : ((impl_ConstLin.f 0 a0_0).bind fun bt432 => (impl_CombineRows.l0 kj2 l1 (l1.length : Int) 0 a0_0 l0_1 bt432.1 bt432.2)) = some (r1, r2, r3) := by rw [if_neg (show ¬ (false = true) by decide)] at H; exact H
   clear H
   have H := H1
   clear H1
   replace H := Option.bind_eq_some_iff.mp H
   obtain ⟨⟨t432, t433⟩, A240, H⟩ := H
   replace H : (impl_CombineRows.l0 kj2 l1 (l1.length : Int) 0 a0_0 l0_1 t432 t433) = some (r1, r2, r3) := H
   have A24 := Aside0.mk A240
   clear A240
   have H' := Aside0.mk H
   clear H
   have := NB428_429.out
   have := NB429_428.out
   obtain ⟨hcz26_0, hcz26_1, hfz26_0, hfz26_1⟩ := cFour BK428
   go_wp2_with (first | ((with_reducible refine gate_callee (f := 45) rfl ?_); refine gl (some 28) rfl rfl Try.func45 (by kernel_rfl) rfl #[.int .i64 0, .int .i64 a0_0] rfl ?_; (with_reducible refine (impl_ConstLin.calls 0 a0_0 t432 t433 _ A24.out).mono ?_); rintro e w27 ⟨v434, rfl, ho0, hb⟩; refine ⟨_, rfl, ?_⟩; have HO435 := Aside0.mk (Kd.R_lower ho0 (below_size (ms HB))); replace BK428 := bb BK428 hb; replace BK429 := bb BK429 hb; replace HB := bs HB hb; (try clear hb); (try clear ho0)) | ((with_reducible refine gate_dst (N := 6) rfl ?_); refine box_event ?hg (N := 6) ?hd (cs := #[.int .i64 0, .slice none 0 0]) (t := 36) ?hr ?_; (case hd => rfl); (case hg => rfl); (case hr => first | (go_simp; done) | (go_simp; rfl)); intro gb436 hg w28 hbox hb; replace HO435 := rb HO435 hb; have BK436 := Aside0.mk (hbox); have GW436 := gw hg HB; have GE436 := gw hg HB; replace HB := bs HB hb; have NB428_436 := nl hg BK428; have NB436_428 := ng hg BK428; replace BK428 := bb BK428 hb; have NB429_436 := nl hg BK429; have NB436_429 := ng hg BK429; replace BK429 := bb BK429 hb; clear hb hbox hg; have := NB436_428.out; have := NB428_436.out; have := NB436_429.out; have := NB429_436.out; obtain ⟨hcz31_0, hcz31_1, hfz31_0, hfz31_1⟩ := cFour BK436; obtain ⟨Ao32, co32, eo32⟩ := Kd.R_slice HO435.out; subst eo32))
   go_loopg [31] kj2 (fun kq v31 w' => ∃ (x31_2 : Int) (x430000_2 : Int) (x437000_2 : Int) (x437001_2 : List Int) (u437001 : Value), v31 = .int .i64 x31_2 ∧ Aside0 (impl_CombineRows.l0 kq l1 (l1.length : Int) x31_2 a0_0 l0_1 x437000_2 x437001_2 = some (r1, r2, r3)) ∧ Aside0 (kq ≤ kj2) ∧ Aside0 (Kd.R (Kd.int .i64) 3 w' w.heap.size (fun _ => True) u437001 x437001_2) ∧ Aside0 (w'.heap[gb428]? = some (.cells #[.int .i64 a0_0, (.slice A0_1 l0_1.length c0_1)] 33 (0, 0))) ∧ Aside0 (w'.heap[gb429]? = some (.cells #[.int .i64 x430000_2, (.slice none 0 0)] 36 (0, 0))) ∧ Aside0 (w'.heap[gb436]? = some (.cells #[.int .i64 x437000_2, u437001] 36 (0, 0))) ∧ Aside0 (Below w.heap.size w w'))
   case atStart => exact ⟨(0), (0), (t432), (t433), (.slice Ao32 t433.length co32), (by first | rfl | (simp; done) | (simp [*]; done)), H', ⟨Nat.le_refl _⟩, ⟨by (with_reducible repeat (first | apply Kd.R_alloc | apply Kd.R_drewN | apply Kd.R_drew)); exact Kd.R_mono (Kd.R_far (p := ⟨gb436, 1, none⟩) (Kd.R_far (p := ⟨gb436, 0, none⟩) (Kd.R_types HO435.out BK436.out (by decide)) (fun _ hk => hk.2) (.int .i64 t432)) (fun _ hk => hk.2) (.slice Ao32 t433.length co32)) (fun _ hk => trivial)⟩, ⟨mf BK428⟩, ⟨mf BK429⟩, ⟨mq BK436⟩, ⟨ms HB⟩⟩
   case round =>
    clear H'
    try clear c1
    try clear c2
    try clear p2
    try clear c3
    try clear c4
    try clear c6
    try clear c7
    try clear c8
    try clear c8b0
    try clear c8b1
    try clear c8b2
    try clear c10
    try clear c14
    try clear c18
    try clear c21
    try clear c22
    try clear c25
    try clear c29
    try clear c30
    try clear hcz11_0
    try clear hcz11_1
    try clear hcz13_0
    try clear hcz13_1
    try clear hcz15_0
    try clear hcz15_1
    try clear hcz17_0
    try clear hcz17_1
    try clear hcz19_0
    try clear hcz19_1
    try clear hcz23_0
    try clear hcz23_1
    try clear hcz26_0
    try clear hcz26_1
    try clear hcz31_0
    try clear hcz31_1
    try clear hfz11_0
    try clear hfz11_1
    try clear hfz13_0
    try clear hfz13_1
    try clear hfz15_0
    try clear hfz15_1
    try clear hfz17_0
    try clear hfz17_1
    try clear hfz19_0
    try clear hfz19_1
    try clear hfz23_0
    try clear hfz23_1
    try clear hfz26_0
    try clear hfz26_1
    try clear hfz31_0
    try clear hfz31_1
    try clear p2
    obtain ⟨x31_2, x430000_2, x437000_2, x437001_2, u437001, rfl, HA, HK2, HO_437001, BK428, BK429, BK436, HB⟩ := hrel
    cases gk with
    | zero => exact absurd HA.out (by simp [impl_CombineRows.l0])
    | succ k2 =>
     have H := HA.out
     clear HA
     simp only [impl_CombineRows.l0] at H
     by_cases c33 : x31_2 < (l1.length : Int)
     ·rw [if_pos c33] at H
      have c33b0 : decide (x31_2 < (l1.length : Int)) = true := decide_eq_true c33
      clear c33
      by_cases c34 : 0 ≤ x31_2
      ·rw [if_pos c34] at H
       have c34b0 : decide (0 ≤ x31_2) = true := decide_eq_true c34
       clear c34
       by_cases c35 : x31_2 < (l1.length : Int)
       ·rw [if_pos c35] at H
        have c35b0 : decide (x31_2 < (l1.length : Int)) = true := decide_eq_true c35
        clear c35
        by_cases c36 : x31_2 < (l0_1.length : Int)
        ·rw [if_pos c36] at H
         have c36b0 : decide (x31_2 < (l0_1.length : Int)) = true := decide_eq_true c36
         clear c36
         replace H := Option.bind_eq_some_iff.mp H
         obtain ⟨⟨t439, t440, t443⟩, A370, H⟩ := H
         replace H : (if t443 = true then (impl_CombineRows.l0 k2 l1 (l1.length : Int) (wrap64 (x31_2 + 1)) a0_0 l0_1 t439 t440) else (some (0, ([] : List Int), false))) = some (r1, r2, r3) := H
         have A37 := Aside0.mk A370
         clear A370
         by_cases c38 : t443 = true
         ·subst c38
          have H1 : (impl_CombineRows.l0 k2 l1 (l1.length : Int) (wrap64 (x31_2 + 1)) a0_0 l0_1 t439 t440) = some (r1, r2, r3) := by rw [if_pos rfl] at H; exact H
          clear H
          have H := H1
          clear H1
          have H' := Aside0.mk H
          clear H
          have p437 : 0 ≤ (x31_2 : Int) := of_decide_eq_true (by first | (with_reducible assumption) | assumption)
          have q437 : x31_2 < (l1.length : Int) := of_decide_eq_true (by first | (with_reducible assumption) | assumption)
          obtain ⟨ad437, e437, hx437_0⟩ := Kd.at_int HR1.out x31_2 p437 q437
          cases e437
          replace hx437_0 := (HB.out.cell (World.block_lt_of_cell? w _ hx437_0)).trans hx437_0
          replace p437 := eq_true p437
          replace q437 := eq_true q437
          try go_wp2
          replace HO_437001 := Aside0.mk (Kd.R_drew HO_437001.out)
          replace BK428 := Aside0.mk (blk_drew BK428.out)
          replace BK429 := Aside0.mk (blk_drew BK429.out)
          replace BK436 := Aside0.mk (blk_drew BK436.out)
          replace HB := Aside0.mk (below_drew1 HB.out)
          have p438 : 0 ≤ (x31_2 : Int) := of_decide_eq_true (by first | (with_reducible assumption) | assumption)
          have q438 : x31_2 < (l0_1.length : Int) := of_decide_eq_true (by first | (with_reducible assumption) | assumption)
          obtain ⟨ad438, A438_1, c438_1, e438, hx438_0, hx438_1, hl438_1, hi438_1⟩ := at_T36 HR0_1.out x31_2 p438 q438
          have hw438_1 := hx438_1
          have hw438_0 := hx438_0
          cases e438
          replace hx438_0 := (HB.out.cell (World.block_lt_of_cell? w _ hx438_0)).trans hx438_0
          replace hx438_1 := (HB.out.cell (World.block_lt_of_cell? w _ hx438_1)).trans hx438_1
          have HR438_1 := Aside0.mk hi438_1
          have HC438_1 := Aside0.mk hl438_1
          clear hi438_1 hl438_1
          replace p438 := eq_true p438
          replace q438 := eq_true q438
          obtain ⟨Ao40, co40, eo40⟩ := Kd.R_slice HO_437001.out
          (first | subst eo40 | (injection eo40 with f1_ f2_ f3_; have f4_ := f1_.symm; have f5_ := f3_.symm; clear f1_ f2_ f3_; subst f4_; subst f5_))
          refine start_ (n := 13) (S := fun w' => w'.cell? ⟨gb436, 0, none⟩ = some (.int .i64 x437000_2) ∧ w'.cell? ⟨gb436, 1, none⟩ = some (.slice Ao40 x437001_2.length co40) ∧ w'.cell? ⟨gb428, 0, none⟩ = some (.int .i64 a0_0) ∧ w'.cell? ⟨gb428, 1, none⟩ = some (.slice (some ad438) l0_1.length c0_1) ∧ w'.cell? (ad438.add ((x31_2).toNat * 2)) = some (.int .i64 ((rd_T36 l0_1 x31_2).f0)) ∧ w'.cell? ⟨(ad438.add ((x31_2).toNat * 2)).block, (ad438.add ((x31_2).toNat * 2)).off + 1, none⟩ = some (.slice A438_1 ((rd_T36 l0_1 x31_2).f1).length c438_1)) (ds := [11]) #[false, false, false, false, false, false, false, false, false, false, false, false, false] (by kernel_rfl) rfl rfl ⟨(c2 BK436).1, (c2 BK436).2, (c2 BK428).1, (c2 BK428).2, ((HB.out.cell (World.block_lt_of_cell? w _ hw438_0)).trans hw438_0), ((HB.out.cell (World.block_lt_of_cell? w _ hw438_1)).trans hw438_1)⟩ (fun hHeld => ?_); refine with_tabW impl_CombineRows.tab8 impl_CombineRows.bits8 (fun HT_ HW_ => ?_)
          generalize wr.drew = w39 at HO_437001 BK428 BK429 BK436 HB HR438_1 hx438_0 hx438_1 hHeld ⊢
          refine pu 1 (some 38) (v := ?_) (a' := ?_) #[false, true, false, false, false, false, false, false, false, false, false, false, false] rfl rfl HT_ (fun _ _ _ h => h) (by rfl) ?_ ?_ ?_
          rotate_left
          ·intro w'
           go_simp
           with_reducible rfl
          rotate_left
          ·simp only [Act.put, z1, z2, z3, i64_w, i32_w]
           rfl
          refine pu 2 (some 39) (v := ?_) (a' := ?_) #[false, true, true, false, false, false, false, false, false, false, false, false, false] rfl rfl HT_ (fun _ _ _ h => h) (by rfl) ?_ ?_ ?_
          rotate_left
          ·intro w'
           go_simp
           with_reducible rfl
          rotate_left
          ·simp only [Act.put, z1, z2, z3, i64_w, i32_w]
           rfl
          refine pu 4 (some 41) (v := ?_) (a' := ?_) #[false, true, true, false, true, false, false, false, false, false, false, false, false] rfl rfl HT_ (fun _ _ _ h => h) (by rfl) ?_ ?_ ?_
          rotate_left
          ·intro w'
           go_simp
           with_reducible rfl
          rotate_left
          ·simp only [Act.put, z1, z2, z3, i64_w, i32_w]
           rfl
          refine tk 0 (some 37) (v := ?_) (a' := ?_) #[true, true, true, false, true, false, false, false, false, false, false, false, false] rfl rfl HT_ HW_ (fun _ _ _ h => h) (by rfl) ?_ hHeld ?_ ?_
          rotate_left
          ·rintro w' ⟨s0, s1, s2, s3, s4, s5⟩
           go_simp
           with_reducible rfl
          rotate_left
          ·simp only [Act.put, z1, z2, z3, i64_w, i32_w]
           rfl
          refine tk 3 (some 40) (v := ?_) (a' := ?_) #[true, true, true, true, true, false, false, false, false, false, false, false, false] rfl rfl HT_ HW_ (fun _ _ _ h => h) (by rfl) ?_ hHeld ?_ ?_
          rotate_left
          ·rintro w' ⟨s0, s1, s2, s3, s4, s5⟩
           go_simp
           with_reducible rfl
          rotate_left
          ·simp only [Act.put, z1, z2, z3, i64_w, i32_w]
           rfl
          refine pu 5 (some 42) (v := ?_) (a' := ?_) #[true, true, true, true, true, true, false, false, false, false, false, false, false] rfl rfl HT_ (fun _ _ _ h => h) (by rfl) ?_ ?_ ?_
          rotate_left
          ·intro w'
           go_simp
           with_reducible rfl
          rotate_left
          ·simp only [Act.put, z1, z2, z3, i64_w, i32_w]
           rfl
          refine tk 6 (some 43) (v := ?_) (a' := ?_) #[true, true, true, true, true, true, true, false, false, false, false, false, false] rfl rfl HT_ HW_ (fun _ _ _ h => h) (by rfl) ?_ hHeld ?_ ?_
          rotate_left
          ·rintro w' ⟨s0, s1, s2, s3, s4, s5⟩
           go_simp
           with_reducible rfl
          rotate_left
          ·simp only [Act.put, z1, z2, z3, i64_w, i32_w]
           rfl
          refine one_ (i := 7) (N := some 44) #[true, true, true, true, true, true, true, true, false, false, false, false, false] rfl rfl (one_of HT_.out (by kernel_rfl)) (by decide) (fun K hK => ?_)
          refine gs Try.func66 (by kernel_rfl) rfl #[.agg #[.int .i64 x437000_2, .slice Ao40 x437001_2.length co40], .int .i64 (rd l1 x31_2), .agg #[.int .i64 ((rd_T36 l0_1 x31_2).f0), .slice A438_1 ((rd_T36 l0_1 x31_2).f1).length c438_1]] (by rfl) rfl rfl ?_
          with_reducible refine (impl_AddScaled.calls k2 x437000_2 _ _ x437001_2 (rd l1 x31_2) ((rd_T36 l0_1 x31_2).f0) _ _ ((rd_T36 l0_1 x31_2).f1) t439 t440 true _ ?side1 ?side2 ?side3 ?side4 A37.out).mono ?_
          (case side1 => exact mc ((Kd.R_reads' HO_437001.out).2.2))
          (case side2 => exact (Kd.R_reads' HO_437001.out).2.1)
          (case side3 => exact mc ((Kd.C_below HR438_1.out HB.out)))
          (case side4 => exact HC438_1.out)
          rintro e w41 ⟨v441, rfl, ho0, hb⟩
          refine ⟨_, rfl, ?_⟩
          have HO442 := Aside0.mk (Kd.R_lower (Kd.R_new' ho0 (Kd.R_lt (mr HO_437001))) (below_size (ms HB)))
          replace HO_437001 := rl HO_437001 ho0 hb
          replace BK428 := bb BK428 hb
          replace BK429 := bb BK429 hb
          replace BK436 := bb BK436 hb
          replace HB := bs HB hb
          (try clear hb)
          (try clear hb2)
          (try clear hk)
          (try clear hi)
          (try clear ho0)
          obtain ⟨Ao43, co43, eo43⟩ := Kd.R_slice HO442.out
          (first | subst eo43 | (injection eo43 with f1_ f2_ f3_; have f4_ := f1_.symm; have f5_ := f3_.symm; clear f1_ f2_ f3_; subst f4_; subst f5_))
          refine hK.out _ _ ⟨(c2 BK436).1, (c2 BK436).2, (c2 BK428).1, (c2 BK428).2, ((HB.out.cell (World.block_lt_of_cell? w _ hw438_0)).trans hw438_0), ((HB.out.cell (World.block_lt_of_cell? w _ hw438_1)).trans hw438_1)⟩ (fun hHeld => ?_)
          clear hK K
          refine norm_ (a' := ?_) ?_ ?_
          rotate_left
          ·show Act.put _ (some 44) _ = _
           simp only [Act.put, z1, z2, z3, i64_w, i32_w]
           rfl
          refine pu 8 (some 36) (v := ?_) (a' := ?_) #[true, true, true, true, true, true, true, true, true, false, false, false, false] rfl rfl HT_ (fun _ _ _ h => h) (by rfl) ?_ ?_ ?_
          rotate_left
          ·intro w'
           go_simp
           with_reducible rfl
          rotate_left
          ·simp only [Act.put, z1, z2, z3, i64_w, i32_w]
           rfl
          refine pu 9 (some 45) (v := ?_) (a' := ?_) #[true, true, true, true, true, true, true, true, true, true, false, false, false] rfl rfl HT_ (fun _ _ _ h => h) (by rfl) ?_ ?_ ?_
          rotate_left
          ·intro w'
           go_simp
           with_reducible rfl
          rotate_left
          ·simp only [Act.put, z1, z2, z3, i64_w, i32_w]
           rfl
          refine pu 10 (some 46) (v := ?_) (a' := ?_) #[true, true, true, true, true, true, true, true, true, true, true, false, false] rfl rfl HT_ (fun _ _ _ h => h) (by rfl) ?_ ?_ ?_
          rotate_left
          ·intro w'
           go_simp
           with_reducible rfl
          rotate_left
          ·simp only [Act.put, z1, z2, z3, i64_w, i32_w]
           rfl
          refine last_ (i := 11) (N := none) #[true, true, true, true, true, true, true, true, true, true, true, true, false] rfl rfl (one_of HT_.out (by kernel_rfl)) (by decide) (fun K hK => ?_)
          have hs42 : w41.cell? ⟨gb436, 0, none⟩ = some (.int .i64 x437000_2) := (blk_cell BK436.out 0).trans rfl
          have hfs42 := blk_frozen BK436.out 0
          have hns42_0 := NB428_436.out
          have hns42_1 := NB429_436.out
          have hms42_0 := NB436_428.out
          have hms42_1 := NB436_429.out
          have hs44 : w41.cell? ⟨gb436, 1, none⟩ = some (.slice Ao40 x437001_2.length co40) := (blk_cell BK436.out 1).trans rfl
          have hfs44 := blk_frozen BK436.out 1
          have hns44_0 := NB428_436.out
          have hns44_1 := NB429_436.out
          have hms44_0 := NB436_428.out
          have hms44_1 := NB436_429.out
          refine skip_ (w1 := ?_) (by rfl) rfl ?_ ?_
          rotate_left
          ·go_simp
           rfl
          refine hK.out _ _ ?_
          clear hK K
          refine pu 12 (some 7) (v := ?_) (a' := ?_) #[true, true, true, true, true, true, true, true, true, true, true, true, true] rfl rfl HT_ (fun _ _ _ h => h) (by rfl) ?_ ?_ ?_
          rotate_left
          ·intro w'
           go_simp
           with_reducible rfl
          rotate_left
          ·simp only [Act.put, z1, z2, z3, i64_w, i32_w]
           rfl
          refine done_ (done_of HT_.out (by kernel_rfl)) ?_
          try go_wp2
          go_roundg k2
          case measure => have := HJ2.out; have := HK2.out; omega
          case rel => exact ⟨(wrap64 (x31_2 + 1)), (x430000_2), (t439), (t440), (.slice Ao43 t440.length co43), (by first | rfl | (simp; done) | (simp [*]; done)), H', ⟨by have := HJ2.out; have := HK2.out; omega⟩, ⟨by (with_reducible repeat (first | apply Kd.R_alloc | apply Kd.R_drewN | apply Kd.R_drew)); exact Kd.R_mono (Kd.R_far (p := ⟨gb436, 1, none⟩) (Kd.R_far (p := ⟨gb436, 0, none⟩) (Kd.R_types HO442.out BK436.out (by decide)) (fun _ hk => hk.2) (.int .i64 t439)) (fun _ hk => hk.2) (.slice Ao43 t440.length co43)) (fun _ hk => trivial)⟩, ⟨mf BK428⟩, ⟨mf BK429⟩, ⟨mq BK436⟩, ⟨ms HB⟩⟩
         replace c38 := Bool.eq_false_iff.mpr c38
         subst c38
         have H1 : (some (0, ([] : List Int), false)) = some (r1, r2, r3) := by rw [if_neg (show ¬ (false = true) by decide)] at H; exact H
         clear H
         have H := H1
         clear H1
         simp only [Option.some.injEq, Prod.mk.injEq] at H
         obtain ⟨rfl, rfl, rfl⟩ := H
         have p437 : 0 ≤ (x31_2 : Int) := of_decide_eq_true (by first | (with_reducible assumption) | assumption)
         have q437 : x31_2 < (l1.length : Int) := of_decide_eq_true (by first | (with_reducible assumption) | assumption)
         obtain ⟨ad437, e437, hx437_0⟩ := Kd.at_int HR1.out x31_2 p437 q437
         cases e437
         replace hx437_0 := (HB.out.cell (World.block_lt_of_cell? w _ hx437_0)).trans hx437_0
         replace p437 := eq_true p437
         replace q437 := eq_true q437
         try go_wp2
         replace HO_437001 := Aside0.mk (Kd.R_drew HO_437001.out)
         replace BK428 := Aside0.mk (blk_drew BK428.out)
         replace BK429 := Aside0.mk (blk_drew BK429.out)
         replace BK436 := Aside0.mk (blk_drew BK436.out)
         replace HB := Aside0.mk (below_drew1 HB.out)
         have p438 : 0 ≤ (x31_2 : Int) := of_decide_eq_true (by first | (with_reducible assumption) | assumption)
         have q438 : x31_2 < (l0_1.length : Int) := of_decide_eq_true (by first | (with_reducible assumption) | assumption)
         obtain ⟨ad438, A438_1, c438_1, e438, hx438_0, hx438_1, hl438_1, hi438_1⟩ := at_T36 HR0_1.out x31_2 p438 q438
         have hw438_1 := hx438_1
         have hw438_0 := hx438_0
         cases e438
         replace hx438_0 := (HB.out.cell (World.block_lt_of_cell? w _ hx438_0)).trans hx438_0
         replace hx438_1 := (HB.out.cell (World.block_lt_of_cell? w _ hx438_1)).trans hx438_1
         have HR438_1 := Aside0.mk hi438_1
         have HC438_1 := Aside0.mk hl438_1
         clear hi438_1 hl438_1
         replace p438 := eq_true p438
         replace q438 := eq_true q438
         obtain ⟨Ao46, co46, eo46⟩ := Kd.R_slice HO_437001.out
         (first | subst eo46 | (injection eo46 with f1_ f2_ f3_; have f4_ := f1_.symm; have f5_ := f3_.symm; clear f1_ f2_ f3_; subst f4_; subst f5_))
         refine start_ (n := 13) (S := fun w' => w'.cell? ⟨gb436, 0, none⟩ = some (.int .i64 x437000_2) ∧ w'.cell? ⟨gb436, 1, none⟩ = some (.slice Ao46 x437001_2.length co46) ∧ w'.cell? ⟨gb428, 0, none⟩ = some (.int .i64 a0_0) ∧ w'.cell? ⟨gb428, 1, none⟩ = some (.slice (some ad438) l0_1.length c0_1) ∧ w'.cell? (ad438.add ((x31_2).toNat * 2)) = some (.int .i64 ((rd_T36 l0_1 x31_2).f0)) ∧ w'.cell? ⟨(ad438.add ((x31_2).toNat * 2)).block, (ad438.add ((x31_2).toNat * 2)).off + 1, none⟩ = some (.slice A438_1 ((rd_T36 l0_1 x31_2).f1).length c438_1)) (ds := [11]) #[false, false, false, false, false, false, false, false, false, false, false, false, false] (by kernel_rfl) rfl rfl ⟨(c2 BK436).1, (c2 BK436).2, (c2 BK428).1, (c2 BK428).2, ((HB.out.cell (World.block_lt_of_cell? w _ hw438_0)).trans hw438_0), ((HB.out.cell (World.block_lt_of_cell? w _ hw438_1)).trans hw438_1)⟩ (fun hHeld => ?_); refine with_tabW impl_CombineRows.tab8 impl_CombineRows.bits8 (fun HT_ HW_ => ?_)
         generalize wr.drew = w45 at HO_437001 BK428 BK429 BK436 HB HR438_1 hx438_0 hx438_1 hHeld ⊢
         refine pu 1 (some 38) (v := ?_) (a' := ?_) #[false, true, false, false, false, false, false, false, false, false, false, false, false] rfl rfl HT_ (fun _ _ _ h => h) (by rfl) ?_ ?_ ?_
         rotate_left
         ·intro w'
          go_simp
          with_reducible rfl
         rotate_left
         ·simp only [Act.put, z1, z2, z3, i64_w, i32_w]
          rfl
         refine pu 2 (some 39) (v := ?_) (a' := ?_) #[false, true, true, false, false, false, false, false, false, false, false, false, false] rfl rfl HT_ (fun _ _ _ h => h) (by rfl) ?_ ?_ ?_
         rotate_left
         ·intro w'
          go_simp
          with_reducible rfl
         rotate_left
         ·simp only [Act.put, z1, z2, z3, i64_w, i32_w]
          rfl
         refine pu 4 (some 41) (v := ?_) (a' := ?_) #[false, true, true, false, true, false, false, false, false, false, false, false, false] rfl rfl HT_ (fun _ _ _ h => h) (by rfl) ?_ ?_ ?_
         rotate_left
         ·intro w'
          go_simp
          with_reducible rfl
         rotate_left
         ·simp only [Act.put, z1, z2, z3, i64_w, i32_w]
          rfl
         refine tk 0 (some 37) (v := ?_) (a' := ?_) #[true, true, true, false, true, false, false, false, false, false, false, false, false] rfl rfl HT_ HW_ (fun _ _ _ h => h) (by rfl) ?_ hHeld ?_ ?_
         rotate_left
         ·rintro w' ⟨s0, s1, s2, s3, s4, s5⟩
          go_simp
          with_reducible rfl
         rotate_left
         ·simp only [Act.put, z1, z2, z3, i64_w, i32_w]
          rfl
         refine tk 3 (some 40) (v := ?_) (a' := ?_) #[true, true, true, true, true, false, false, false, false, false, false, false, false] rfl rfl HT_ HW_ (fun _ _ _ h => h) (by rfl) ?_ hHeld ?_ ?_
         rotate_left
         ·rintro w' ⟨s0, s1, s2, s3, s4, s5⟩
          go_simp
          with_reducible rfl
         rotate_left
         ·simp only [Act.put, z1, z2, z3, i64_w, i32_w]
          rfl
         refine pu 5 (some 42) (v := ?_) (a' := ?_) #[true, true, true, true, true, true, false, false, false, false, false, false, false] rfl rfl HT_ (fun _ _ _ h => h) (by rfl) ?_ ?_ ?_
         rotate_left
         ·intro w'
          go_simp
          with_reducible rfl
         rotate_left
         ·simp only [Act.put, z1, z2, z3, i64_w, i32_w]
          rfl
         refine tk 6 (some 43) (v := ?_) (a' := ?_) #[true, true, true, true, true, true, true, false, false, false, false, false, false] rfl rfl HT_ HW_ (fun _ _ _ h => h) (by rfl) ?_ hHeld ?_ ?_
         rotate_left
         ·rintro w' ⟨s0, s1, s2, s3, s4, s5⟩
          go_simp
          with_reducible rfl
         rotate_left
         ·simp only [Act.put, z1, z2, z3, i64_w, i32_w]
          rfl
         refine one_ (i := 7) (N := some 44) #[true, true, true, true, true, true, true, true, false, false, false, false, false] rfl rfl (one_of HT_.out (by kernel_rfl)) (by decide) (fun K hK => ?_)
         refine gs Try.func66 (by kernel_rfl) rfl #[.agg #[.int .i64 x437000_2, .slice Ao46 x437001_2.length co46], .int .i64 (rd l1 x31_2), .agg #[.int .i64 ((rd_T36 l0_1 x31_2).f0), .slice A438_1 ((rd_T36 l0_1 x31_2).f1).length c438_1]] (by rfl) rfl rfl ?_
         with_reducible refine (impl_AddScaled.calls k2 x437000_2 _ _ x437001_2 (rd l1 x31_2) ((rd_T36 l0_1 x31_2).f0) _ _ ((rd_T36 l0_1 x31_2).f1) t439 t440 false _ ?side1 ?side2 ?side3 ?side4 A37.out).mono ?_
         (case side1 => exact mc ((Kd.R_reads' HO_437001.out).2.2))
         (case side2 => exact (Kd.R_reads' HO_437001.out).2.1)
         (case side3 => exact mc ((Kd.C_below HR438_1.out HB.out)))
         (case side4 => exact HC438_1.out)
         rintro e w47 ⟨v441, rfl, ho0, hb⟩
         refine ⟨_, rfl, ?_⟩
         have HO442 := Aside0.mk (Kd.R_lower (Kd.R_new' ho0 (Kd.R_lt (mr HO_437001))) (below_size (ms HB)))
         replace HO_437001 := rl HO_437001 ho0 hb
         replace BK428 := bb BK428 hb
         replace BK429 := bb BK429 hb
         replace BK436 := bb BK436 hb
         replace HB := bs HB hb
         (try clear hb)
         (try clear hb2)
         (try clear hk)
         (try clear hi)
         (try clear ho0)
         obtain ⟨Ao49, co49, eo49⟩ := Kd.R_slice HO442.out
         (first | subst eo49 | (injection eo49 with f1_ f2_ f3_; have f4_ := f1_.symm; have f5_ := f3_.symm; clear f1_ f2_ f3_; subst f4_; subst f5_))
         refine hK.out _ _ ⟨(c2 BK436).1, (c2 BK436).2, (c2 BK428).1, (c2 BK428).2, ((HB.out.cell (World.block_lt_of_cell? w _ hw438_0)).trans hw438_0), ((HB.out.cell (World.block_lt_of_cell? w _ hw438_1)).trans hw438_1)⟩ (fun hHeld => ?_)
         clear hK K
         refine norm_ (a' := ?_) ?_ ?_
         rotate_left
         ·show Act.put _ (some 44) _ = _
          simp only [Act.put, z1, z2, z3, i64_w, i32_w]
          rfl
         refine pu 8 (some 36) (v := ?_) (a' := ?_) #[true, true, true, true, true, true, true, true, true, false, false, false, false] rfl rfl HT_ (fun _ _ _ h => h) (by rfl) ?_ ?_ ?_
         rotate_left
         ·intro w'
          go_simp
          with_reducible rfl
         rotate_left
         ·simp only [Act.put, z1, z2, z3, i64_w, i32_w]
          rfl
         refine pu 9 (some 45) (v := ?_) (a' := ?_) #[true, true, true, true, true, true, true, true, true, true, false, false, false] rfl rfl HT_ (fun _ _ _ h => h) (by rfl) ?_ ?_ ?_
         rotate_left
         ·intro w'
          go_simp
          with_reducible rfl
         rotate_left
         ·simp only [Act.put, z1, z2, z3, i64_w, i32_w]
          rfl
         refine pu 10 (some 46) (v := ?_) (a' := ?_) #[true, true, true, true, true, true, true, true, true, true, true, false, false] rfl rfl HT_ (fun _ _ _ h => h) (by rfl) ?_ ?_ ?_
         rotate_left
         ·intro w'
          go_simp
          with_reducible rfl
         rotate_left
         ·simp only [Act.put, z1, z2, z3, i64_w, i32_w]
          rfl
         refine last_ (i := 11) (N := none) #[true, true, true, true, true, true, true, true, true, true, true, true, false] rfl rfl (one_of HT_.out (by kernel_rfl)) (by decide) (fun K hK => ?_)
         have hs48 : w47.cell? ⟨gb436, 0, none⟩ = some (.int .i64 x437000_2) := (blk_cell BK436.out 0).trans rfl
         have hfs48 := blk_frozen BK436.out 0
         have hns48_0 := NB428_436.out
         have hns48_1 := NB429_436.out
         have hms48_0 := NB436_428.out
         have hms48_1 := NB436_429.out
         have hs50 : w47.cell? ⟨gb436, 1, none⟩ = some (.slice Ao46 x437001_2.length co46) := (blk_cell BK436.out 1).trans rfl
         have hfs50 := blk_frozen BK436.out 1
         have hns50_0 := NB428_436.out
         have hns50_1 := NB429_436.out
         have hms50_0 := NB436_428.out
         have hms50_1 := NB436_429.out
         refine skip_ (w1 := ?_) (by rfl) rfl ?_ ?_
         rotate_left
         ·go_simp
          rfl
         refine hK.out _ _ ?_
         clear hK K
         refine pu 12 (some 7) (v := ?_) (a' := ?_) #[true, true, true, true, true, true, true, true, true, true, true, true, true] rfl rfl HT_ (fun _ _ _ h => h) (by rfl) ?_ ?_ ?_
         rotate_left
         ·intro w'
          go_simp
          with_reducible rfl
         rotate_left
         ·simp only [Act.put, z1, z2, z3, i64_w, i32_w]
          rfl
         refine done_ (done_of HT_.out (by kernel_rfl)) ?_
         have := NB429_428.out
         have := NB428_429.out
         have := NB429_436.out
         have := NB436_429.out
         obtain ⟨_, _, _, _⟩ := cFour BK429
         try go_wp2
         refine bodyPost_ret (results_ct rfl _ _ gb429 36 #[.int .i64 0, .slice none 0 0] (0, 0) _ rfl (by (with_reducible repeat (first | refine blk_drewN ?_ _ | refine blk_drew ?_ | refine blk_alloc ?_ _)); refine blk_put (cs := #[.int .i64 0, .slice none 0 0]) ?_ 1 _ rfl; (with_reducible repeat (first | refine blk_drewN ?_ _ | refine blk_drew ?_ | refine blk_alloc ?_ _)); refine blk_put (cs := #[.int .i64 x430000_2, .slice none 0 0]) ?_ 0 _ rfl; (with_reducible repeat (first | refine blk_drewN ?_ _ | refine blk_drew ?_ | refine blk_alloc ?_ _)); refine blk_far ?_ NB429_436.out _; (with_reducible repeat (first | refine blk_drewN ?_ _ | refine blk_drew ?_ | refine blk_alloc ?_ _)); refine blk_far ?_ NB429_436.out _; (with_reducible repeat (first | refine blk_drewN ?_ _ | refine blk_drew ?_ | refine blk_alloc ?_ _)); exact BK429.out) Try.underlying36 rfl (by kernel_rfl)) rfl ?_
         exact ⟨_, by first | rfl | (simp [errW_none, errW_some] <;> rfl) | (simp [*, errW_none, errW_some] <;> rfl), by first | exact Kd.R_nil _ _ _ _ _ | exact Kd.N_nil _ _ _ _ _ | exact Kd.V_nil _ _ _ _ _ | exact Kd.Q_nil _ _ _ _ _ | exact Kd.S_nil _ _ _ _ _, ms HB⟩
        rw [if_neg c36] at H
        exact absurd H (by simp)
       rw [if_neg c35] at H
       exact absurd H (by simp)
      rw [if_neg c34] at H
      exact absurd H (by simp)
     rw [if_neg c33] at H
     have c33b0 : decide (x31_2 < (l1.length : Int)) = false := decide_eq_false c33
     clear c33
     simp only [Option.some.injEq, Prod.mk.injEq] at H
     obtain ⟨rfl, rfl, rfl⟩ := H
     have := NB436_428.out
     have := NB428_436.out
     have := NB436_429.out
     have := NB429_436.out
     obtain ⟨_, _, _, _⟩ := cFour BK436
     have := NB429_428.out
     have := NB428_429.out
     obtain ⟨_, _, _, _⟩ := cFour BK429
     obtain ⟨Ao59, co59, eo59⟩ := Kd.R_slice HO_437001.out
     subst eo59
     go_wp2
     refine bodyPost_ret (results_ct rfl _ _ gb429 36 #[.int .i64 x437000_2, .slice Ao59 x437001_2.length co59] (0, 0) _ rfl (mq BK429) Try.underlying36 rfl (by kernel_rfl)) rfl ?_
     exact ⟨_, by first | rfl | (simp [errW_none, errW_some] <;> rfl) | (simp [*, errW_none, errW_some] <;> rfl), by (with_reducible repeat (first | apply Kd.R_alloc | apply Kd.R_drewN | apply Kd.R_drew)); exact Kd.R_mono (Kd.R_far (p := ⟨gb429, 1, none⟩) (Kd.R_far (p := ⟨gb429, 0, none⟩) (Kd.R_types HO_437001.out BK429.out (by decide)) (fun _ hk => hk.2) (.int .i64 x437000_2)) (fun _ hk => hk.2) (.slice Ao59 x437001_2.length co59)) (fun _ hk => trivial), ms HB⟩

/-! ### slices_Clone_int_int: function 96 -/
def slices_Clone_int_int.f (l0 : List Int) : Option (List Int) := (some (([] : List Int) : List Int)).bind fun y444 => (if y444.length + l0.length < 17592186044416 then (some (y444 ++ l0)) else (none))
set_option maxHeartbeats 8000000 in
set_option maxRecDepth 100000 in
theorem slices_Clone_int_int.calls (A0 : Option Addr) (c0 : Nat) (l0 : List Int) (r : List Int) (w : World) (hr0 : Kd.C (Kd.int .i64) w A0 l0.length l0) (hc0 : l0.length ≤ c0) (h : slices_Clone_int_int.f l0 = some r) :
  Calls Try.prog 96 #[.slice A0 l0.length c0] w fun e w' => ∃ v0_ : Value, e = .returned (v0_) ∧ Kd.R (Kd.int .i64) 3 w' w.heap.size (fun _ => True) v0_ r ∧ Below w.heap.size w w' := by
 have q_ : ∀ (W : World) (a : Option Addr) (m c m' c' : Nat), (Go.binOp .eql 34 (.slice a m c) (.slice none m' c')).run Try.prog W = .ok (.bool a.isNone) W := fun W a m c m' c' => Lib.run_eql_slice_nil W _ _ a m c m' c' Try.underlying34
 cases A0 with
 | none =>
  have e_ : l0 = [] := by
   rcases Nat.eq_zero_or_pos l0.length with e | e
   ·exact List.length_eq_zero_iff.1 e
   obtain ⟨_, e', _⟩ := hr0.2.2 e; cases e'
  subst e_
  obtain rfl : r = [] := by simpa [slices_Clone_int_int.f] using h.symm
  go_enter Try.func96, Try.ntmps96
  go_wp2
  go_ret
  exact ⟨_, rfl, Kd.R_nil _ _ _ _ _, Below.refl _ _⟩
 | some a0_ =>
  have HR0 := Aside0.mk hr0
  have HC0 := Aside0.mk hc0
  clear hr0 hc0
  have HB := Aside0.mk (Below.refl w.heap.size w)
  have H : ((some (([] : List Int) : List Int)).bind fun y444 => (if y444.length + l0.length < 17592186044416 then (some (y444 ++ l0)) else (none))) = some r := h
  clear h
  obtain ⟨y444, hy444⟩ : ∃ y_ : List Int, y_ = (([] : List Int)) := ⟨_, rfl⟩
  replace H : (if y444.length + l0.length < 17592186044416 then (some (y444 ++ l0)) else (none)) = some r := by first | (rw [hy444]; with_reducible exact H) | (have H2_ := (Option.bind_some _ _).symm.trans H; rw [hy444]; with_reducible exact H2_) | (have H2_ := (Option.bind_some _ _).symm.trans H; with_reducible exact H2_) | with_reducible exact H | (rw [hy444]; exact H) | exact H
  have Ny444 := Aside0.mk hy444
  clear hy444
  by_cases c2 : y444.length + l0.length < 17592186044416
  ·rw [if_pos c2] at H
   have LMc2 := Aside0.mk c2
   clear c2
   obtain ⟨y447, hy447⟩ : ∃ y_ : List Int, y_ = (y444 ++ l0) := ⟨_, rfl⟩
   replace H : (some y447) = some r := by first | (rw [hy447]; with_reducible exact H) | (have H2_ := (Option.bind_some _ _).symm.trans H; rw [hy447]; with_reducible exact H2_) | (have H2_ := (Option.bind_some _ _).symm.trans H; with_reducible exact H2_) | with_reducible exact H | (rw [hy447]; exact H) | exact H
   have Ny447 := Aside0.mk hy447
   clear hy447
   obtain rfl := Option.some.inj H
   go_enter Try.func96, Try.ntmps96
   go_wp2_with (first | ((with_reducible refine gate_dst (N := 5) rfl ?_); refine Kd.R_lit (Kd.int .i64) _ 3 ?hg (N := 5) ?hd (xs := ([] : List Int)) (inner := []) (ok := fun _ => True) (okp := fun _ => True) ?hr ?hp (fun _ hk => hk) trivial (Below.refl _ _) (Nat.le_refl _) (by simp) ?_; (case hd => rfl); (case hg => rfl); (case hr => first | (go_simp; done) | (go_simp; rfl)); (case hp => exact (Reps.none _ _)); intro v445 w3 ho4 hb hg_ hnew_; clear hg_ hnew_; (first | rw [← Ny444.out] at ho4 | (simp only [Int.reduceToNat] at ho4; rw [← Ny444.out] at ho4)); have HO446 := Aside0.mk (Kd.R_lower ho4 (below_size (ms HB))); replace HB := bs HB hb; clear hb ho4) | ((with_reducible refine gate_builtin (b := .append) (xs := #[.tmp 5, .tmp 6]) rfl ?_); at_builtin; refine Kd.R_append_rows (Kd.int .i64) (w0 := w) w.heap.size rfl (.tmp 5) (.tmp 6) 34 3 (.int .i64 0) 8 rfl Try.underlying34 info3 rfl (by decide) (by omega) v445 y444 l0 _ _ _ (fun _ => True) (fun _ => False) rfl rfl ?aO ?aR (fun _ _ h => h) (fun _ h => h.elim) ?aF ?aB ?aS ?aL ?_; (case aR => exact mc ((Kd.C_below HR0.out HB.out))); (case aB => exact (ms HB)); (case aF => exact (fun _ _ => trivial)); (case aO => exact (mr HO446)); (case aS => exact (below_size (ms HB))); (case aL => have := LMc2.out; omega); intro v448 w5 ho hb hg hat; rw [← Ny447.out] at ho; replace HB := Aside0.mk (hb); have HO449 := Aside0.mk (ho); clear HO446 ho hb hg hat))
   go_ret
   exact ⟨_, by first | rfl | (simp [errW_none, errW_some] <;> rfl) | (simp [*, errW_none, errW_some] <;> rfl), by (with_reducible repeat (first | apply Kd.R_alloc | apply Kd.R_drewN | apply Kd.R_drew)); exact HO449.out, ms HB⟩
  rw [if_neg c2] at H
  exact absurd H (by simp)

end Go.Proofs.Ytelgmnlkkhikfaa.QFnFarkas
