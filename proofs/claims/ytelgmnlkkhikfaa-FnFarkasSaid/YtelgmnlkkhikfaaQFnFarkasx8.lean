-- Made by a program of this claim's own (wip/print): not the kit's print as it stands.
import Derived.Test.YtelgmnlkkhikfaaUFnFarkasTri
import Derived.Test.YtelgmnlkkhikfaaQFnFarkasx0
import Derived.Test.YtelgmnlkkhikfaaQFnFarkasx1
import Derived.Test.YtelgmnlkkhikfaaQFnFarkasx6
import Derived.Test.YtelgmnlkkhikfaaQFnFarkasx7
namespace Go.Proofs.Ytelgmnlkkhikfaa.QFnFarkas
open Go.RowKit Go.Proofs.YtelgmnlkkhikfaaV.PrintWords Go.Proofs.YtelgmnlkkhikfaaV.PrintLast Go.Proofs.YtelgmnlkkhikfaaV.PrintMore
attribute [local go_sem] max2_int min2_int max_two min_two max_three min_three max_four min_four   -- for this text's walks alone
set_option linter.unusedVariables false
set_option linter.unusedSimpArgs false

/-! ### spec_CombineRows: function 58 -/
mutual
def spec_CombineRows.j0 : Nat → List Int → Bool → Int → List (S36) → Option (Int × List Int × Bool)
 | 0, _, _, _, _ => none
 | k + 1, x1, x20, x293000, x293001 => if x20 = true then (some (0, ([] : List Int), false)) else ((spec_ConstLin.f 0 x293000).bind fun bt295 => (spec_CombineRows.l0 k x1 0 x293000 x293001 bt295.1 bt295.2))
def spec_CombineRows.l0 : Nat → List Int → Int → Int → List (S36) → Int → List Int → Option (Int × List Int × Bool)
 | 0, _, _, _, _, _, _ => none
 | k + 1, x1, x7, x293000, x293001, x300000, x300001 => if x7 < (x1.length : Int) then (if 0 ≤ x7 then (if x7 < (x293001.length : Int) then ((spec_AddScaled.f k x300000 x300001 (rd x1 x7) ((rd_T36 x293001 x7).f0) ((rd_T36 x293001 x7).f1)).bind fun bt302 => (if bt302.2.2 = true then (if (rd x1 x7) < 0 then (some (0, ([] : List Int), false)) else (spec_CombineRows.l0 k x1 (wrap64 (x7 + 1)) x293000 x293001 bt302.1 bt302.2.1)) else (some (0, ([] : List Int), false)))) else (none)) else (none)) else (some (x300000, x300001, true))
end
def spec_CombineRows.f (k : Nat) (a0_0 : Int) (l0_1 : List (S36)) (l1 : List Int) : Option (Int × List Int × Bool) := (spec_IsValidSystem.f k a0_0 l0_1).bind fun t294 => (if t294 = true then (spec_CombineRows.j0 k l1 ((l1.length : Int) != (l0_1.length : Int)) a0_0 l0_1) else (spec_CombineRows.j0 k l1 true a0_0 l0_1))
theorem spec_CombineRows.mono_l : ∀ k, (∀ y0 y1 y2 y3, LeO (spec_CombineRows.j0 k y0 y1 y2 y3) (spec_CombineRows.j0 (k + 1) y0 y1 y2 y3)) ∧ (∀ y0 y1 y2 y3 y4 y5, LeO (spec_CombineRows.l0 k y0 y1 y2 y3 y4 y5) (spec_CombineRows.l0 (k + 1) y0 y1 y2 y3 y4 y5))
 | 0 => ⟨fun _ _ _ _ r h => by simp [spec_CombineRows.j0] at h, fun _ _ _ _ _ _ r h => by simp [spec_CombineRows.l0] at h⟩
 | k + 1 => by
  obtain ⟨ih0, ih1⟩ := spec_CombineRows.mono_l k
  refine ⟨?_, ?_⟩
  ·intro y0 y1 y2 y3
   unfold spec_CombineRows.j0
   repeat' with_reducible first
   | exact ih0 _ _ _ _
   | exact ih1 _ _ _ _ _ _
   | exact spec_AddScaled.mono _ _ _ _ _ _
   | exact spec_IsValidSystem.mono _ _ _
   | exact LeO.refl _
   | exact LeO.none _
   | refine LeO.ite ?_ ?_
   | refine LeO.bind ?_ (fun _ => ?_)
  intro y0 y1 y2 y3 y4 y5
  unfold spec_CombineRows.l0
  repeat' with_reducible first
  | exact ih0 _ _ _ _
  | exact ih1 _ _ _ _ _ _
  | exact spec_AddScaled.mono _ _ _ _ _ _
  | exact spec_IsValidSystem.mono _ _ _
  | exact LeO.refl _
  | exact LeO.none _
  | refine LeO.ite ?_ ?_
  | refine LeO.bind ?_ (fun _ => ?_)
theorem spec_CombineRows.mono : ∀ a0 a1 a2 k, LeO (spec_CombineRows.f k a0 a1 a2) (spec_CombineRows.f (k + 1) a0 a1 a2) := by
 intro a0 a1 a2 k
 obtain ⟨ih0, ih1⟩ := spec_CombineRows.mono_l k
 unfold spec_CombineRows.f
 repeat' with_reducible first
 | exact ih0 _ _ _ _
 | exact ih1 _ _ _ _ _ _
 | exact spec_AddScaled.mono _ _ _ _ _ _
 | exact spec_IsValidSystem.mono _ _ _
 | exact LeO.refl _
 | exact LeO.none _
 | refine LeO.ite ?_ ?_
 | refine LeO.bind ?_ (fun _ => ?_)
def spec_CombineRows.T7 : Bool × List (List Nat × List Nat) := (true, [([], []), ([], []), ([], []), ([1, 2], [1, 2]), ([3], [3]), ([], []), ([5], [5]), ([], []), ([6, 7], [6, 7]), ([8], [8]), ([0, 4, 9], [0, 4, 9]), ([10], [10]), ([11], [11]), ([11], [11]), ([], []), ([14, 12, 10, 0, 1, 2, 3, 4, 5, 6, 7, 8, 9, 10, 11, 12, 14], [12, 14]), ([13, 15, 0, 1, 2, 3, 4, 5, 6, 7, 8, 9, 10, 11, 12, 13, 14, 15], [13])])
def spec_CombineRows.B7 : List Nat := [0, 0, 0, 6, 14, 0, 32, 0, 224, 480, 1023, 2047, 4095, 4095, 0, 24575, 65535]
theorem spec_CombineRows.tab7 : rtab .any (opsOf Try.f58 7) = spec_CombineRows.T7 := by kernel_rfl
theorem spec_CombineRows.bits7 : waitsOk spec_CombineRows.T7.2 spec_CombineRows.B7 = true := by kernel_rfl
set_option maxHeartbeats 8000000 in
set_option maxRecDepth 100000 in
theorem spec_CombineRows.calls (k : Nat) (a0_0 : Int) (A0_1 : Option Addr) (c0_1 : Nat) (l0_1 : List (S36)) (A1 : Option Addr) (c1 : Nat) (l1 : List Int) (r1 : Int) (r2 : List Int) (r3 : Bool) (w : World) (hr0_1 : Kd.C k36 w A0_1 l0_1.length l0_1) (hc0_1 : l0_1.length ≤ c0_1) (hr1 : Kd.C (Kd.int .i64) w A1 l1.length l1) (hc1 : l1.length ≤ c1) (h : spec_CombineRows.f k a0_0 l0_1 l1 = some (r1, r2, r3)) :
  Calls Try.prog 58 #[.agg #[.int .i64 a0_0, .slice A0_1 l0_1.length c0_1], .slice A1 l1.length c1] w fun e w' => ∃ v1_ : Value, e = .returned (.tuple #[.agg #[.int .i64 r1, v1_], .bool r3]) ∧ Kd.R (Kd.int .i64) 3 w' w.heap.size (fun _ => True) v1_ r2 ∧ Below w.heap.size w w' := by
 have hu33 := Try.underlying33
 have hu36 := Try.underlying36
 have HR0_1 := Aside0.mk hr0_1
 have HC0_1 := Aside0.mk hc0_1
 clear hr0_1 hc0_1
 have HR1 := Aside0.mk hr1
 have HC1 := Aside0.mk hc1
 clear hr1 hc1
 have HB := Aside0.mk (Below.refl w.heap.size w)
 have H : ((spec_IsValidSystem.f k a0_0 l0_1).bind fun t294 => (if t294 = true then (spec_CombineRows.j0 k l1 ((l1.length : Int) != (l0_1.length : Int)) a0_0 l0_1) else (spec_CombineRows.j0 k l1 true a0_0 l0_1))) = some (r1, r2, r3) := h
 clear h
 have HC3 := Aside0.mk H
 clear H
 go_enter Try.func58, Try.ntmps58
 go_upto_region 1 with (first | ((with_reducible refine gate_dst (N := 2) rfl ?_); refine box_event ?hg (N := 2) ?hd (cs := #[.int .i64 a0_0, .slice A0_1 l0_1.length c0_1]) (t := 33) ?hr ?_; (case hd => rfl); (case hg => rfl); (case hr => first | (go_simp; done) | (go_simp; rfl)); intro gb292 hg w4 hbox hb; have BK292 := Aside0.mk (hbox); have GW292 := gw hg HB; have GE292 := gw hg HB; replace HB := bs HB hb; clear hb hbox hg) | ((with_reducible refine gate_dst (N := 4) rfl ?_); refine box_event ?hg (N := 4) ?hd (cs := #[.int .i64 0, .slice none 0 0]) (t := 36) ?hr ?_; (case hd => rfl); (case hg => rfl); (case hr => first | (go_simp; done) | (go_simp; rfl)); intro gb293 hg w5 hbox hb; have BK293 := Aside0.mk (hbox); have GW293 := gw hg HB; have GE293 := gw hg HB; replace HB := bs HB hb; have NB292_293 := nl hg BK292; have NB293_292 := ng hg BK292; replace BK292 := bb BK292 hb; clear hb hbox hg))
 (try simp only [Act.put, List.setIfInBounds_toArray, List.set_cons_zero, List.set_cons_succ])
 go_cut [20] (fun v20 wc => ∃ (kq : Nat) (x20_2 : Bool), v20 = .bool x20_2 ∧ Aside0 (spec_CombineRows.j0 kq l1 x20_2 a0_0 l0_1 = some (r1, r2, r3)) ∧ Aside0 (kq ≤ k) ∧ Aside0 (wc.heap[gb292]? = some (.cells #[.int .i64 a0_0, (.slice A0_1 l0_1.length c0_1)] 33 (0, 0))) ∧ Aside0 (wc.heap[gb293]? = some (.cells #[.int .i64 0, (.slice none 0 0)] 36 (0, 0))) ∧ Aside0 (Below w.heap.size w wc))
 case first =>
  have H := HC3.out
  clear HC3
  replace H := Option.bind_eq_some_iff.mp H
  obtain ⟨t294, A60, H⟩ := H
  replace H : (if t294 = true then (spec_CombineRows.j0 k l1 ((l1.length : Int) != (l0_1.length : Int)) a0_0 l0_1) else (spec_CombineRows.j0 k l1 true a0_0 l0_1)) = some (r1, r2, r3) := H
  have A6 := Aside0.mk A60
  clear A60
  by_cases c7 : t294 = true
  ·subst c7
   have H1 : (spec_CombineRows.j0 k l1 ((l1.length : Int) != (l0_1.length : Int)) a0_0 l0_1) = some (r1, r2, r3) := by rw [if_pos rfl] at H; exact H
   clear H
   have H := H1
   clear H1
   have H' := Aside0.mk H
   clear H
   have := NB292_293.out
   have := NB293_292.out
   obtain ⟨hcz9_0, hcz9_1, hfz9_0, hfz9_1⟩ := cFour BK292
   go_wp2_with (first | ((with_reducible refine gate_callee (f := 72) rfl ?_); refine gl (some 11) rfl rfl Try.func72 (by kernel_rfl) rfl #[.agg #[.int .i64 a0_0, .slice A0_1 l0_1.length c0_1]] rfl ?_; (with_reducible refine (spec_IsValidSystem.calls k a0_0 _ _ l0_1 true _ ?side1 ?side2 A6.out).mono ?_); (case side1 => exact mc ((Kd.C_below HR0_1.out HB.out))); (case side2 => exact HC0_1.out); rintro e w10 ⟨rfl, hb⟩; refine ⟨_, rfl, ?_⟩; replace BK292 := bb BK292 hb; replace BK293 := bb BK293 hb; replace HB := bs HB hb; (try clear hb); obtain ⟨hcz11_0, hcz11_1, hfz11_0, hfz11_1⟩ := cFour BK292))
   go_meet
   case rel => exact ⟨_, (((l1.length : Int) != (l0_1.length : Int))), (by first | rfl | (simp; done) | (simp [*]; done)), H', ⟨by first | omega | exact Nat.le_refl _⟩, ⟨mb BK292⟩, ⟨mb BK293⟩, ⟨ms HB⟩⟩
  replace c7 := Bool.eq_false_iff.mpr c7
  subst c7
  have H1 : (spec_CombineRows.j0 k l1 true a0_0 l0_1) = some (r1, r2, r3) := by rw [if_neg (show ¬ (false = true) by decide)] at H; exact H
  clear H
  have H := H1
  clear H1
  have H' := Aside0.mk H
  clear H
  have := NB292_293.out
  have := NB293_292.out
  obtain ⟨hcz13_0, hcz13_1, hfz13_0, hfz13_1⟩ := cFour BK292
  go_wp2_with (first | ((with_reducible refine gate_callee (f := 72) rfl ?_); refine gl (some 11) rfl rfl Try.func72 (by kernel_rfl) rfl #[.agg #[.int .i64 a0_0, .slice A0_1 l0_1.length c0_1]] rfl ?_; (with_reducible refine (spec_IsValidSystem.calls k a0_0 _ _ l0_1 false _ ?side1 ?side2 A6.out).mono ?_); (case side1 => exact mc ((Kd.C_below HR0_1.out HB.out))); (case side2 => exact HC0_1.out); rintro e w14 ⟨rfl, hb⟩; refine ⟨_, rfl, ?_⟩; replace BK292 := bb BK292 hb; replace BK293 := bb BK293 hb; replace HB := bs HB hb; (try clear hb)))
  go_meet
  case rel => exact ⟨_, (true), (by first | rfl | (simp; done) | (simp [*]; done)), H', ⟨by first | omega | exact Nat.le_refl _⟩, ⟨mb BK292⟩, ⟨mb BK293⟩, ⟨ms HB⟩⟩
 case rest =>
  clear HC3
  try clear c1
  try clear p2
  try clear c5
  try clear c7
  try clear c8
  try clear c12
  try clear hcz11_0
  try clear hcz11_1
  try clear hcz13_0
  try clear hcz13_1
  try clear hcz9_0
  try clear hcz9_1
  try clear hfz11_0
  try clear hfz11_1
  try clear hfz13_0
  try clear hfz13_1
  try clear hfz9_0
  try clear hfz9_1
  obtain ⟨kq, x20_2, rfl, HA, HJ2, BK292, BK293, HB⟩ := hcut
  cases kq with
  | zero => exact absurd HA.out (by simp [spec_CombineRows.j0])
  | succ kj2 =>
   have H := HA.out
   clear HA
   simp only [spec_CombineRows.j0] at H
   by_cases c15 : x20_2 = true
   ·subst c15
    have H1 : (some (0, ([] : List Int), false)) = some (r1, r2, r3) := by rw [if_pos rfl] at H; exact H
    clear H
    have H := H1
    clear H1
    simp only [Option.some.injEq, Prod.mk.injEq] at H
    obtain ⟨rfl, rfl, rfl⟩ := H
    have := NB293_292.out
    have := NB292_293.out
    obtain ⟨hcz17_0, hcz17_1, hfz17_0, hfz17_1⟩ := cFour BK293
    go_wp2
    refine bodyPost_ret (results_ct rfl _ _ gb293 36 #[.int .i64 0, .slice none 0 0] (0, 0) _ rfl (mq BK293) Try.underlying36 rfl (by kernel_rfl)) rfl ?_
    exact ⟨_, by first | rfl | (simp [errW_none, errW_some] <;> rfl) | (simp [*, errW_none, errW_some] <;> rfl), by first | exact Kd.R_nil _ _ _ _ _ | exact Kd.N_nil _ _ _ _ _ | exact Kd.V_nil _ _ _ _ _ | exact Kd.Q_nil _ _ _ _ _ | exact Kd.S_nil _ _ _ _ _, ms HB⟩
   replace c15 := Bool.eq_false_iff.mpr c15
   subst c15
   have H1 : ((spec_ConstLin.f 0 a0_0).bind fun bt295 => (spec_CombineRows.l0 kj2 l1 0 a0_0 l0_1 bt295.1 bt295.2)) = some (r1, r2, r3) := by rw [if_neg (show ¬ (false = true) by decide)] at H; exact H
   clear H
   have H := H1
   clear H1
   replace H := Option.bind_eq_some_iff.mp H
   obtain ⟨⟨t295, t296⟩, A180, H⟩ := H
   replace H : (spec_CombineRows.l0 kj2 l1 0 a0_0 l0_1 t295 t296) = some (r1, r2, r3) := H
   have A18 := Aside0.mk A180
   clear A180
   have H' := Aside0.mk H
   clear H
   have := NB292_293.out
   have := NB293_292.out
   obtain ⟨hcz20_0, hcz20_1, hfz20_0, hfz20_1⟩ := cFour BK292
   go_wp2_with (first | ((with_reducible refine gate_callee (f := 44) rfl ?_); refine gl (some 24) rfl rfl Try.func44 (by kernel_rfl) rfl #[.int .i64 0, .int .i64 a0_0] rfl ?_; (with_reducible refine (spec_ConstLin.calls 0 a0_0 t295 t296 _ A18.out).mono ?_); rintro e w21 ⟨v297, rfl, ho0, hb⟩; refine ⟨_, rfl, ?_⟩; have HO298 := Aside0.mk (Kd.R_lower ho0 (below_size (ms HB))); replace BK292 := bb BK292 hb; replace BK293 := bb BK293 hb; replace HB := bs HB hb; (try clear hb); (try clear ho0)) | ((with_reducible refine gate_dst (N := 6) rfl ?_); refine box_event ?hg (N := 6) ?hd (cs := #[.int .i64 0, .slice none 0 0]) (t := 36) ?hr ?_; (case hd => rfl); (case hg => rfl); (case hr => first | (go_simp; done) | (go_simp; rfl)); intro gb299 hg w22 hbox hb; replace HO298 := rb HO298 hb; have BK299 := Aside0.mk (hbox); have GW299 := gw hg HB; have GE299 := gw hg HB; replace HB := bs HB hb; have NB292_299 := nl hg BK292; have NB299_292 := ng hg BK292; replace BK292 := bb BK292 hb; have NB293_299 := nl hg BK293; have NB299_293 := ng hg BK293; replace BK293 := bb BK293 hb; clear hb hbox hg; have := NB299_292.out; have := NB292_299.out; have := NB299_293.out; have := NB293_299.out; obtain ⟨hcz25_0, hcz25_1, hfz25_0, hfz25_1⟩ := cFour BK299; obtain ⟨Ao26, co26, eo26⟩ := Kd.R_slice HO298.out; subst eo26))
   go_loopg [7] kj2 (fun kq v7 w' => ∃ (x7_2 : Int) (x294000_2 : Int) (x300000_2 : Int) (x300001_2 : List Int) (u300001 : Value), v7 = .int .i64 x7_2 ∧ Aside0 (spec_CombineRows.l0 kq l1 x7_2 a0_0 l0_1 x300000_2 x300001_2 = some (r1, r2, r3)) ∧ Aside0 (kq ≤ kj2) ∧ Aside0 (Kd.R (Kd.int .i64) 3 w' w.heap.size (fun _ => True) u300001 x300001_2) ∧ Aside0 (w'.heap[gb292]? = some (.cells #[.int .i64 a0_0, (.slice A0_1 l0_1.length c0_1)] 33 (0, 0))) ∧ Aside0 (w'.heap[gb293]? = some (.cells #[.int .i64 x294000_2, (.slice none 0 0)] 36 (0, 0))) ∧ Aside0 (w'.heap[gb299]? = some (.cells #[.int .i64 x300000_2, u300001] 36 (0, 0))) ∧ Aside0 (Below w.heap.size w w'))
   case atStart => exact ⟨(0), (0), (t295), (t296), (.slice Ao26 t296.length co26), (by first | rfl | (simp; done) | (simp [*]; done)), H', ⟨Nat.le_refl _⟩, ⟨by (with_reducible repeat (first | apply Kd.R_alloc | apply Kd.R_drewN | apply Kd.R_drew)); exact Kd.R_mono (Kd.R_far (p := ⟨gb299, 1, none⟩) (Kd.R_far (p := ⟨gb299, 0, none⟩) (Kd.R_types HO298.out BK299.out (by decide)) (fun _ hk => hk.2) (.int .i64 t295)) (fun _ hk => hk.2) (.slice Ao26 t296.length co26)) (fun _ hk => trivial)⟩, ⟨mf BK292⟩, ⟨mf BK293⟩, ⟨mq BK299⟩, ⟨ms HB⟩⟩
   case round =>
    clear H'
    try clear c1
    try clear c2
    try clear p2
    try clear c4
    try clear c5
    try clear c7
    try clear c8
    try clear c12
    try clear c15
    try clear c16
    try clear c19
    try clear c23
    try clear c24
    try clear hcz11_0
    try clear hcz11_1
    try clear hcz13_0
    try clear hcz13_1
    try clear hcz17_0
    try clear hcz17_1
    try clear hcz20_0
    try clear hcz20_1
    try clear hcz25_0
    try clear hcz25_1
    try clear hcz9_0
    try clear hcz9_1
    try clear hfz11_0
    try clear hfz11_1
    try clear hfz13_0
    try clear hfz13_1
    try clear hfz17_0
    try clear hfz17_1
    try clear hfz20_0
    try clear hfz20_1
    try clear hfz25_0
    try clear hfz25_1
    try clear hfz9_0
    try clear hfz9_1
    try clear p2
    obtain ⟨x7_2, x294000_2, x300000_2, x300001_2, u300001, rfl, HA, HK2, HO_300001, BK292, BK293, BK299, HB⟩ := hrel
    cases gk with
    | zero => exact absurd HA.out (by simp [spec_CombineRows.l0])
    | succ k2 =>
     have H := HA.out
     clear HA
     simp only [spec_CombineRows.l0] at H
     by_cases c27 : x7_2 < (l1.length : Int)
     ·rw [if_pos c27] at H
      have c27b0 : decide (x7_2 < (l1.length : Int)) = true := decide_eq_true c27
      clear c27
      by_cases c28 : 0 ≤ x7_2
      ·rw [if_pos c28] at H
       have c28b0 : decide (0 ≤ x7_2) = true := decide_eq_true c28
       clear c28
       by_cases c29 : x7_2 < (l0_1.length : Int)
       ·rw [if_pos c29] at H
        have c29b0 : decide (x7_2 < (l0_1.length : Int)) = true := decide_eq_true c29
        clear c29
        replace H := Option.bind_eq_some_iff.mp H
        obtain ⟨⟨t302, t303, t306⟩, A300, H⟩ := H
        replace H : (if t306 = true then (if (rd l1 x7_2) < 0 then (some (0, ([] : List Int), false)) else (spec_CombineRows.l0 k2 l1 (wrap64 (x7_2 + 1)) a0_0 l0_1 t302 t303)) else (some (0, ([] : List Int), false))) = some (r1, r2, r3) := H
        have A30 := Aside0.mk A300
        clear A300
        by_cases c31 : t306 = true
        ·subst c31
         have H1 : (if (rd l1 x7_2) < 0 then (some (0, ([] : List Int), false)) else (spec_CombineRows.l0 k2 l1 (wrap64 (x7_2 + 1)) a0_0 l0_1 t302 t303)) = some (r1, r2, r3) := by rw [if_pos rfl] at H; exact H
         clear H
         have H := H1
         clear H1
         by_cases c32 : (rd l1 x7_2) < 0
         ·rw [if_pos c32] at H
          have c32b0 : decide ((rd l1 x7_2) < 0) = true := decide_eq_true c32
          clear c32
          simp only [Option.some.injEq, Prod.mk.injEq] at H
          obtain ⟨rfl, rfl, rfl⟩ := H
          obtain ⟨Ao33, co33, eo33⟩ := Kd.R_slice HO_300001.out
          subst eo33
          try go_wp2
          replace HO_300001 := Aside0.mk (Kd.R_drew HO_300001.out)
          replace BK292 := Aside0.mk (blk_drew BK292.out)
          replace BK293 := Aside0.mk (blk_drew BK293.out)
          replace BK299 := Aside0.mk (blk_drew BK299.out)
          replace HB := Aside0.mk (below_drew1 HB.out)
          have p300 : 0 ≤ (x7_2 : Int) := of_decide_eq_true (by first | (with_reducible assumption) | assumption)
          have q300 : x7_2 < (l1.length : Int) := of_decide_eq_true (by first | (with_reducible assumption) | assumption)
          obtain ⟨ad300, e300, hx300_0⟩ := Kd.at_int HR1.out x7_2 p300 q300
          have hw300_0 := hx300_0
          cases e300
          replace hx300_0 := (HB.out.cell (World.block_lt_of_cell? w _ hx300_0)).trans hx300_0
          replace p300 := eq_true p300
          replace q300 := eq_true q300
          have p301 : 0 ≤ (x7_2 : Int) := of_decide_eq_true (by first | (with_reducible assumption) | assumption)
          have q301 : x7_2 < (l0_1.length : Int) := of_decide_eq_true (by first | (with_reducible assumption) | assumption)
          obtain ⟨ad301, A301_1, c301_1, e301, hx301_0, hx301_1, hl301_1, hi301_1⟩ := at_T36 HR0_1.out x7_2 p301 q301
          have hw301_1 := hx301_1
          have hw301_0 := hx301_0
          cases e301
          replace hx301_0 := (HB.out.cell (World.block_lt_of_cell? w _ hx301_0)).trans hx301_0
          replace hx301_1 := (HB.out.cell (World.block_lt_of_cell? w _ hx301_1)).trans hx301_1
          have HR301_1 := Aside0.mk hi301_1
          have HC301_1 := Aside0.mk hl301_1
          clear hi301_1 hl301_1
          replace p301 := eq_true p301
          replace q301 := eq_true q301
          refine start_ (n := 17) (S := fun w' => w'.cell? ⟨gb299, 0, none⟩ = some (.int .i64 x300000_2) ∧ w'.cell? ⟨gb299, 1, none⟩ = some (.slice Ao33 x300001_2.length co33) ∧ w'.cell? ⟨gb292, 0, none⟩ = some (.int .i64 a0_0) ∧ w'.cell? ⟨gb292, 1, none⟩ = some (.slice (some ad301) l0_1.length c0_1) ∧ w'.cell? (ad300.add (x7_2).toNat) = some (.int .i64 (rd l1 x7_2)) ∧ w'.cell? (ad301.add ((x7_2).toNat * 2)) = some (.int .i64 ((rd_T36 l0_1 x7_2).f0)) ∧ w'.cell? ⟨(ad301.add ((x7_2).toNat * 2)).block, (ad301.add ((x7_2).toNat * 2)).off + 1, none⟩ = some (.slice A301_1 ((rd_T36 l0_1 x7_2).f1).length c301_1)) (ds := []) #[false, false, false, false, false, false, false, false, false, false, false, false, false, false, false, false, false] (by kernel_rfl) rfl rfl ⟨(c2 BK299).1, (c2 BK299).2, (c2 BK292).1, (c2 BK292).2, ((HB.out.cell (World.block_lt_of_cell? w _ hw300_0)).trans hw300_0), ((HB.out.cell (World.block_lt_of_cell? w _ hw301_0)).trans hw301_0), ((HB.out.cell (World.block_lt_of_cell? w _ hw301_1)).trans hw301_1)⟩ (fun hHeld => ?_); refine with_tabW spec_CombineRows.tab7 spec_CombineRows.bits7 (fun HT_ HW_ => ?_)
          generalize wr.drew = w34 at HO_300001 BK292 BK293 BK299 HB HR301_1 hx300_0 hx301_0 hx301_1 hHeld ⊢
          refine pu 1 (some 33) (v := ?_) (a' := ?_) #[false, true, false, false, false, false, false, false, false, false, false, false, false, false, false, false, false] rfl rfl HT_ (fun _ _ _ h => h) (by rfl) ?_ ?_ ?_
          rotate_left
          ·intro w'
           go_simp
           with_reducible rfl
          rotate_left
          ·simp only [Act.put, z1, z2, z3, i64_w, i32_w]
           rfl
          refine pu 2 (some 34) (v := ?_) (a' := ?_) #[false, true, true, false, false, false, false, false, false, false, false, false, false, false, false, false, false] rfl rfl HT_ (fun _ _ _ h => h) (by rfl) ?_ ?_ ?_
          rotate_left
          ·intro w'
           go_simp
           with_reducible rfl
          rotate_left
          ·simp only [Act.put, z1, z2, z3, i64_w, i32_w]
           rfl
          refine pu 3 (some 35) (v := ?_) (a' := ?_) #[false, true, true, true, false, false, false, false, false, false, false, false, false, false, false, false, false] rfl rfl HT_ (fun _ _ _ h => h) (by rfl) ?_ ?_ ?_
          rotate_left
          ·intro w'
           go_simp
           with_reducible rfl
          rotate_left
          ·simp only [Act.put, z1, z2, z3, i64_w, i32_w]
           rfl
          refine pu 5 (some 37) (v := ?_) (a' := ?_) #[false, true, true, true, false, true, false, false, false, false, false, false, false, false, false, false, false] rfl rfl HT_ (fun _ _ _ h => h) (by rfl) ?_ ?_ ?_
          rotate_left
          ·intro w'
           go_simp
           with_reducible rfl
          rotate_left
          ·simp only [Act.put, z1, z2, z3, i64_w, i32_w]
           rfl
          refine pu 7 (some 39) (v := ?_) (a' := ?_) #[false, true, true, true, false, true, false, true, false, false, false, false, false, false, false, false, false] rfl rfl HT_ (fun _ _ _ h => h) (by rfl) ?_ ?_ ?_
          rotate_left
          ·intro w'
           go_simp
           with_reducible rfl
          rotate_left
          ·simp only [Act.put, z1, z2, z3, i64_w, i32_w]
           rfl
          refine tk 0 (some 32) (v := ?_) (a' := ?_) #[true, true, true, true, false, true, false, true, false, false, false, false, false, false, false, false, false] rfl rfl HT_ HW_ (fun _ _ _ h => h) (by rfl) ?_ hHeld ?_ ?_
          rotate_left
          ·rintro w' ⟨s0, s1, s2, s3, s4, s5, s6⟩
           go_simp
           with_reducible rfl
          rotate_left
          ·simp only [Act.put, z1, z2, z3, i64_w, i32_w]
           rfl
          refine tk 4 (some 36) (v := ?_) (a' := ?_) #[true, true, true, true, true, true, false, true, false, false, false, false, false, false, false, false, false] rfl rfl HT_ HW_ (fun _ _ _ h => h) (by rfl) ?_ hHeld ?_ ?_
          rotate_left
          ·rintro w' ⟨s0, s1, s2, s3, s4, s5, s6⟩
           go_simp
           with_reducible rfl
          rotate_left
          ·simp only [Act.put, z1, z2, z3, i64_w, i32_w]
           rfl
          refine tk 6 (some 38) (v := ?_) (a' := ?_) #[true, true, true, true, true, true, true, true, false, false, false, false, false, false, false, false, false] rfl rfl HT_ HW_ (fun _ _ _ h => h) (by rfl) ?_ hHeld ?_ ?_
          rotate_left
          ·rintro w' ⟨s0, s1, s2, s3, s4, s5, s6⟩
           go_simp
           with_reducible rfl
          rotate_left
          ·simp only [Act.put, z1, z2, z3, i64_w, i32_w]
           rfl
          refine pu 8 (some 40) (v := ?_) (a' := ?_) #[true, true, true, true, true, true, true, true, true, false, false, false, false, false, false, false, false] rfl rfl HT_ (fun _ _ _ h => h) (by rfl) ?_ ?_ ?_
          rotate_left
          ·intro w'
           go_simp
           with_reducible rfl
          rotate_left
          ·simp only [Act.put, z1, z2, z3, i64_w, i32_w]
           rfl
          refine tk 9 (some 41) (v := ?_) (a' := ?_) #[true, true, true, true, true, true, true, true, true, true, false, false, false, false, false, false, false] rfl rfl HT_ HW_ (fun _ _ _ h => h) (by rfl) ?_ hHeld ?_ ?_
          rotate_left
          ·rintro w' ⟨s0, s1, s2, s3, s4, s5, s6⟩
           go_simp
           with_reducible rfl
          rotate_left
          ·simp only [Act.put, z1, z2, z3, i64_w, i32_w]
           rfl
          refine join_ (σ := Value × Nat) 2 #[true, true, true, true, true, true, true, true, true, true, true, true, true, true, true, false, false] (fun s_ => [(42, .tuple #[.agg #[.int .i64 t302, s_.1], .bool true]), (8, .pointer (some ⟨s_.2, 0, none⟩)), (31, .tuple #[.agg #[.int .i64 t302, s_.1], .bool true]), (43, .agg #[.int .i64 t302, s_.1]), (44, .bool true)]) (fun s_ w' => (w'.cell? ⟨gb299, 0, none⟩ = some (.int .i64 x300000_2) ∧ w'.cell? ⟨gb299, 1, none⟩ = some (.slice Ao33 x300001_2.length co33) ∧ w'.cell? ⟨gb292, 0, none⟩ = some (.int .i64 a0_0) ∧ w'.cell? ⟨gb292, 1, none⟩ = some (.slice (some ad301) l0_1.length c0_1) ∧ w'.cell? (ad300.add (x7_2).toNat) = some (.int .i64 (rd l1 x7_2)) ∧ w'.cell? (ad301.add ((x7_2).toNat * 2)) = some (.int .i64 ((rd_T36 l0_1 x7_2).f0)) ∧ w'.cell? ⟨(ad301.add ((x7_2).toNat * 2)).block, (ad301.add ((x7_2).toNat * 2)).off + 1, none⟩ = some (.slice A301_1 ((rd_T36 l0_1 x7_2).f1).length c301_1)) ∧ (Kd.R (Kd.int .i64) 3 w' w.heap.size (fun k_ => some k_ ≠ (.slice Ao33 x300001_2.length co33 : Value).ownBlock) s_.1 t303) ∧ (Kd.R (Kd.int .i64) 3 w' w.heap.size (fun k_ => some k_ ≠ (s_.1 : Value).ownBlock) (.slice Ao33 x300001_2.length co33) x300001_2) ∧ (w'.heap[gb292]? = some (.cells #[.int .i64 a0_0, .slice (some ad301) l0_1.length c0_1] 33 (0, 0))) ∧ (w'.heap[gb293]? = some (.cells #[.int .i64 x294000_2, .slice none 0 0] 36 (0, 0))) ∧ (w'.heap[gb299]? = some (.cells #[.int .i64 x300000_2, .slice Ao33 x300001_2.length co33] 36 (0, 0))) ∧ (w'.heap[s_.2]? = some (.cells #[.int .i64 0, .slice none 0 0] 36 (0, 0))) ∧ (w.heap.size ≤ s_.2) ∧ (w.heap.size ≤ s_.2) ∧ (gb292 ≠ s_.2) ∧ (s_.2 ≠ gb292) ∧ (gb293 ≠ s_.2) ∧ (s_.2 ≠ gb293) ∧ (gb299 ≠ s_.2) ∧ (s_.2 ≠ gb299) ∧ (Below w.heap.size w w')) ?_ ?_
          rotate_left
          ·intro hCont
           refine two_ (i := 10) (j := 14) (Ni := some 42) (Nj := some 8) #[true, true, true, true, true, true, true, true, true, true, true, false, false, false, false, false, false] #[true, true, true, true, true, true, true, true, true, true, false, false, false, false, true, false, false] rfl rfl rfl rfl (two_of HT_.out (by kernel_rfl)) (by decide) (by decide) (fun K hK => ?_) (fun K hK => ?_)
           ·skip
            refine gs Try.func69 (by kernel_rfl) rfl #[.agg #[.int .i64 x300000_2, .slice Ao33 x300001_2.length co33], .int .i64 (rd l1 x7_2), .agg #[.int .i64 ((rd_T36 l0_1 x7_2).f0), .slice A301_1 ((rd_T36 l0_1 x7_2).f1).length c301_1]] (by rfl) rfl rfl ?_
            with_reducible refine (spec_AddScaled.calls k2 x300000_2 _ _ x300001_2 (rd l1 x7_2) ((rd_T36 l0_1 x7_2).f0) _ _ ((rd_T36 l0_1 x7_2).f1) t302 t303 true _ ?side1 ?side2 ?side3 ?side4 A30.out).mono ?_
            (case side1 => exact mc ((Kd.R_reads' HO_300001.out).2.2))
            (case side2 => exact (Kd.R_reads' HO_300001.out).2.1)
            (case side3 => exact mc ((Kd.C_below HR301_1.out HB.out)))
            (case side4 => exact HC301_1.out)
            rintro e w35 ⟨v304, rfl, ho0, hb⟩
            refine ⟨_, rfl, ?_⟩
            have HO305 := Aside0.mk (Kd.R_lower (Kd.R_new' ho0 (Kd.R_lt (mr HO_300001))) (below_size (ms HB)))
            replace HO_300001 := rl HO_300001 ho0 hb
            replace BK292 := bb BK292 hb
            replace BK293 := bb BK293 hb
            replace BK299 := bb BK299 hb
            replace HB := bs HB hb
            (try clear hb)
            (try clear hb2)
            (try clear hk)
            (try clear hi)
            (try clear ho0)
            refine hK.out _ _ ⟨(c2 BK299).1, (c2 BK299).2, (c2 BK292).1, (c2 BK292).2, ((HB.out.cell (World.block_lt_of_cell? w _ hw300_0)).trans hw300_0), ((HB.out.cell (World.block_lt_of_cell? w _ hw301_0)).trans hw301_0), ((HB.out.cell (World.block_lt_of_cell? w _ hw301_1)).trans hw301_1)⟩ (fun hHeld => ?_)
            clear hK K
            refine norm_ (a' := ?_) ?_ ?_
            rotate_left
            ·show Act.put _ (some 42) _ = _
             simp only [Act.put, z1, z2, z3, i64_w, i32_w]
             rfl
            refine pu 11 (some 31) (v := ?_) (a' := ?_) #[true, true, true, true, true, true, true, true, true, true, true, true, false, false, false, false, false] rfl rfl HT_ (fun _ _ _ h => h) (by rfl) ?_ ?_ ?_
            rotate_left
            ·intro w'
             go_simp
             with_reducible rfl
            rotate_left
            ·simp only [Act.put, z1, z2, z3, i64_w, i32_w]
             rfl
            refine pu 12 (some 43) (v := ?_) (a' := ?_) #[true, true, true, true, true, true, true, true, true, true, true, true, true, false, false, false, false] rfl rfl HT_ (fun _ _ _ h => h) (by rfl) ?_ ?_ ?_
            rotate_left
            ·intro w'
             go_simp
             with_reducible rfl
            rotate_left
            ·simp only [Act.put, z1, z2, z3, i64_w, i32_w]
             rfl
            refine pu 13 (some 44) (v := ?_) (a' := ?_) #[true, true, true, true, true, true, true, true, true, true, true, true, true, true, false, false, false] rfl rfl HT_ (fun _ _ _ h => h) (by rfl) ?_ ?_ ?_
            rotate_left
            ·intro w'
             go_simp
             with_reducible rfl
            rotate_left
            ·simp only [Act.put, z1, z2, z3, i64_w, i32_w]
             rfl
            refine one_ (i := 14) (N := some 8) #[true, true, true, true, true, true, true, true, true, true, true, true, true, true, true, false, false] rfl rfl (one_of HT_.out (by kernel_rfl)) (by decide) (fun K hK => ?_)
            refine box_step ?hg (N := 8) ?hd (cs := #[.int .i64 0, .slice none 0 0]) (t := 36) ?hr ?_; (case hd => rfl); (case hg => rfl); (case hr => first | (go_simp; done) | (go_simp; rfl))
            intro gb307 hg w36 hbox hb
            replace HO_300001 := rb HO_300001 hb
            replace HO305 := rb HO305 hb
            have BK307 := Aside0.mk (hbox)
            have GW307 := gw hg HB
            have GE307 := gw hg HB
            replace HB := bs HB hb
            have NB292_307 := nl hg BK292
            have NB307_292 := ng hg BK292
            replace BK292 := bb BK292 hb
            have NB293_307 := nl hg BK293
            have NB307_293 := ng hg BK293
            replace BK293 := bb BK293 hb
            have NB299_307 := nl hg BK299
            have NB307_299 := ng hg BK299
            replace BK299 := bb BK299 hb
            clear hb hbox hg
            refine hK.out _ _ ⟨(c2 BK299).1, (c2 BK299).2, (c2 BK292).1, (c2 BK292).2, ((HB.out.cell (World.block_lt_of_cell? w _ hw300_0)).trans hw300_0), ((HB.out.cell (World.block_lt_of_cell? w _ hw301_0)).trans hw301_0), ((HB.out.cell (World.block_lt_of_cell? w _ hw301_1)).trans hw301_1)⟩ (fun hHeld => ?_)
            clear hK K
            refine norm_ (a' := ?_) ?_ ?_
            rotate_left
            ·show Act.put _ (some 8) _ = _
             simp only [Act.put, z1, z2, z3, i64_w, i32_w]
             rfl
            exact norm_ (by simp only [putAll, Act.put, List.setIfInBounds_toArray, List.set_cons_zero, List.set_cons_succ]) (hCont (v304, gb307) _ ⟨hHeld, (by (with_reducible repeat (first | apply Kd.R_alloc | apply Kd.R_drewN | apply Kd.R_drew)); exact Kd.R_mono HO305.out (fun _ hk => hk.2)), (by (with_reducible repeat (first | apply Kd.R_alloc | apply Kd.R_drewN | apply Kd.R_drew)); exact Kd.R_mono HO_300001.out (fun _ hk => hk.2)), (mb BK292), (mb BK293), (mb BK299), (mb BK307), GW307.out, GE307.out, NB292_307.out, NB307_292.out, NB293_307.out, NB307_293.out, NB299_307.out, NB307_299.out, (ms HB)⟩)
           skip
           refine box_step ?hg (N := 8) ?hd (cs := #[.int .i64 0, .slice none 0 0]) (t := 36) ?hr ?_; (case hd => rfl); (case hg => rfl); (case hr => first | (go_simp; done) | (go_simp; rfl))
           intro gb307 hg w35 hbox hb
           replace HO_300001 := rb HO_300001 hb
           have BK307 := Aside0.mk (hbox)
           have GW307 := gw hg HB
           have GE307 := gw hg HB
           replace HB := bs HB hb
           have NB292_307 := nl hg BK292
           have NB307_292 := ng hg BK292
           replace BK292 := bb BK292 hb
           have NB293_307 := nl hg BK293
           have NB307_293 := ng hg BK293
           replace BK293 := bb BK293 hb
           have NB299_307 := nl hg BK299
           have NB307_299 := ng hg BK299
           replace BK299 := bb BK299 hb
           clear hb hbox hg
           refine hK.out _ _ ⟨(c2 BK299).1, (c2 BK299).2, (c2 BK292).1, (c2 BK292).2, ((HB.out.cell (World.block_lt_of_cell? w _ hw300_0)).trans hw300_0), ((HB.out.cell (World.block_lt_of_cell? w _ hw301_0)).trans hw301_0), ((HB.out.cell (World.block_lt_of_cell? w _ hw301_1)).trans hw301_1)⟩ (fun hHeld => ?_)
           clear hK K
           refine norm_ (a' := ?_) ?_ ?_
           rotate_left
           ·show Act.put _ (some 8) _ = _
            simp only [Act.put, z1, z2, z3, i64_w, i32_w]
            rfl
           refine one_ (i := 10) (N := some 42) #[true, true, true, true, true, true, true, true, true, true, true, false, false, false, true, false, false] rfl rfl (one_of HT_.out (by kernel_rfl)) (by decide) (fun K hK => ?_)
           refine gs Try.func69 (by kernel_rfl) rfl #[.agg #[.int .i64 x300000_2, .slice Ao33 x300001_2.length co33], .int .i64 (rd l1 x7_2), .agg #[.int .i64 ((rd_T36 l0_1 x7_2).f0), .slice A301_1 ((rd_T36 l0_1 x7_2).f1).length c301_1]] (by rfl) rfl rfl ?_
           with_reducible refine (spec_AddScaled.calls k2 x300000_2 _ _ x300001_2 (rd l1 x7_2) ((rd_T36 l0_1 x7_2).f0) _ _ ((rd_T36 l0_1 x7_2).f1) t302 t303 true _ ?side1 ?side2 ?side3 ?side4 A30.out).mono ?_
           (case side1 => exact mc ((Kd.R_reads' HO_300001.out).2.2))
           (case side2 => exact (Kd.R_reads' HO_300001.out).2.1)
           (case side3 => exact mc ((Kd.C_below HR301_1.out HB.out)))
           (case side4 => exact HC301_1.out)
           rintro e w36 ⟨v304, rfl, ho0, hb⟩
           refine ⟨_, rfl, ?_⟩
           have HO305 := Aside0.mk (Kd.R_lower (Kd.R_new' ho0 (Kd.R_lt (mr HO_300001))) (below_size (ms HB)))
           replace HO_300001 := rl HO_300001 ho0 hb
           replace BK292 := bb BK292 hb
           replace BK293 := bb BK293 hb
           replace BK299 := bb BK299 hb
           replace BK307 := bb BK307 hb
           replace HB := bs HB hb
           (try clear hb)
           (try clear hb2)
           (try clear hk)
           (try clear hi)
           (try clear ho0)
           refine hK.out _ _ ⟨(c2 BK299).1, (c2 BK299).2, (c2 BK292).1, (c2 BK292).2, ((HB.out.cell (World.block_lt_of_cell? w _ hw300_0)).trans hw300_0), ((HB.out.cell (World.block_lt_of_cell? w _ hw301_0)).trans hw301_0), ((HB.out.cell (World.block_lt_of_cell? w _ hw301_1)).trans hw301_1)⟩ (fun hHeld => ?_)
           clear hK K
           refine norm_ (a' := ?_) ?_ ?_
           rotate_left
           ·show Act.put _ (some 42) _ = _
            simp only [Act.put, z1, z2, z3, i64_w, i32_w]
            rfl
           refine pu 11 (some 31) (v := ?_) (a' := ?_) #[true, true, true, true, true, true, true, true, true, true, true, true, false, false, true, false, false] rfl rfl HT_ (fun _ _ _ h => h) (by rfl) ?_ ?_ ?_
           rotate_left
           ·intro w'
            go_simp
            with_reducible rfl
           rotate_left
           ·simp only [Act.put, z1, z2, z3, i64_w, i32_w]
            rfl
           refine pu 12 (some 43) (v := ?_) (a' := ?_) #[true, true, true, true, true, true, true, true, true, true, true, true, true, false, true, false, false] rfl rfl HT_ (fun _ _ _ h => h) (by rfl) ?_ ?_ ?_
           rotate_left
           ·intro w'
            go_simp
            with_reducible rfl
           rotate_left
           ·simp only [Act.put, z1, z2, z3, i64_w, i32_w]
            rfl
           refine pu 13 (some 44) (v := ?_) (a' := ?_) #[true, true, true, true, true, true, true, true, true, true, true, true, true, true, true, false, false] rfl rfl HT_ (fun _ _ _ h => h) (by rfl) ?_ ?_ ?_
           rotate_left
           ·intro w'
            go_simp
            with_reducible rfl
           rotate_left
           ·simp only [Act.put, z1, z2, z3, i64_w, i32_w]
            rfl
           exact norm_ (by simp only [putAll, Act.put, List.setIfInBounds_toArray, List.set_cons_zero, List.set_cons_succ]) (hCont (v304, gb307) _ ⟨hHeld, (by (with_reducible repeat (first | apply Kd.R_alloc | apply Kd.R_drewN | apply Kd.R_drew)); exact Kd.R_mono HO305.out (fun _ hk => hk.2)), (by (with_reducible repeat (first | apply Kd.R_alloc | apply Kd.R_drewN | apply Kd.R_drew)); exact Kd.R_mono HO_300001.out (fun _ hk => hk.2)), (mb BK292), (mb BK293), (mb BK299), (mb BK307), GW307.out, GE307.out, NB292_307.out, NB307_292.out, NB293_307.out, NB307_293.out, NB299_307.out, NB307_299.out, (ms HB)⟩)
          rintro ⟨v304, gb307⟩ w37 ⟨hS_, h0_, h1_, h2_, h3_, h4_, h5_, h6_, h7_, h8_, h9_, h10_, h11_, h12_, h13_, h14_⟩
          have n0_ : Aside0 (Kd.R (Kd.int .i64) 3 w37 w.heap.size (fun k_ => some k_ ≠ (.slice Ao33 x300001_2.length co33 : Value).ownBlock) v304 t303) := ⟨h0_⟩
          have n1_ : Aside0 (Kd.R (Kd.int .i64) 3 w37 w.heap.size (fun k_ => some k_ ≠ (v304 : Value).ownBlock) (.slice Ao33 x300001_2.length co33) x300001_2) := ⟨h1_⟩
          have n2_ : Aside0 (w37.heap[gb292]? = some (.cells #[.int .i64 a0_0, .slice (some ad301) l0_1.length c0_1] 33 (0, 0))) := ⟨h2_⟩
          have n3_ : Aside0 (w37.heap[gb293]? = some (.cells #[.int .i64 x294000_2, .slice none 0 0] 36 (0, 0))) := ⟨h3_⟩
          have n4_ : Aside0 (w37.heap[gb299]? = some (.cells #[.int .i64 x300000_2, .slice Ao33 x300001_2.length co33] 36 (0, 0))) := ⟨h4_⟩
          have n5_ : Aside0 (w37.heap[gb307]? = some (.cells #[.int .i64 0, .slice none 0 0] 36 (0, 0))) := ⟨h5_⟩
          have n6_ : Aside0 (w.heap.size ≤ gb307) := ⟨h6_⟩
          have n7_ : Aside0 (w.heap.size ≤ gb307) := ⟨h7_⟩
          have n8_ : Aside0 (gb292 ≠ gb307) := ⟨h8_⟩
          have n9_ : Aside0 (gb307 ≠ gb292) := ⟨h9_⟩
          have n10_ : Aside0 (gb293 ≠ gb307) := ⟨h10_⟩
          have n11_ : Aside0 (gb307 ≠ gb293) := ⟨h11_⟩
          have n12_ : Aside0 (gb299 ≠ gb307) := ⟨h12_⟩
          have n13_ : Aside0 (gb307 ≠ gb299) := ⟨h13_⟩
          have n14_ : Aside0 (Below w.heap.size w w37) := ⟨h14_⟩
          clear HO_300001
          clear BK292
          clear BK293
          clear BK299
          clear HB
          clear h0_ h1_ h2_ h3_ h4_ h5_ h6_ h7_ h8_ h9_ h10_ h11_ h12_ h13_ h14_
          have HO305 := n0_
          have HO_300001 := n1_
          have BK292 := n2_
          have BK293 := n3_
          have BK299 := n4_
          have BK307 := n5_
          have GW307 := n6_
          have GE307 := n7_
          have NB292_307 := n8_
          have NB307_292 := n9_
          have NB293_307 := n10_
          have NB307_293 := n11_
          have NB299_307 := n12_
          have NB307_299 := n13_
          have HB := n14_
          clear n0_ n1_ n2_ n3_ n4_ n5_ n6_ n7_ n8_ n9_ n10_ n11_ n12_ n13_ n14_
          have hHeld : w37.cell? ⟨gb299, 0, none⟩ = some (.int .i64 x300000_2) ∧ w37.cell? ⟨gb299, 1, none⟩ = some (.slice Ao33 x300001_2.length co33) ∧ w37.cell? ⟨gb292, 0, none⟩ = some (.int .i64 a0_0) ∧ w37.cell? ⟨gb292, 1, none⟩ = some (.slice (some ad301) l0_1.length c0_1) ∧ w37.cell? (ad300.add (x7_2).toNat) = some (.int .i64 (rd l1 x7_2)) ∧ w37.cell? (ad301.add ((x7_2).toNat * 2)) = some (.int .i64 ((rd_T36 l0_1 x7_2).f0)) ∧ w37.cell? ⟨(ad301.add ((x7_2).toNat * 2)).block, (ad301.add ((x7_2).toNat * 2)).off + 1, none⟩ = some (.slice A301_1 ((rd_T36 l0_1 x7_2).f1).length c301_1) := hS_
          obtain ⟨Ao39, co39, eo39⟩ := Kd.R_slice HO305.out
          (first | subst eo39 | (injection eo39 with f1_ f2_ f3_; have f4_ := f1_.symm; have f5_ := f3_.symm; clear f1_ f2_ f3_; subst f4_; subst f5_))
          refine norm_ (a' := ?_) ?_ ?_
          rotate_left
          ·simp only [putAll, Act.put, List.setIfInBounds_toArray, List.set_cons_zero, List.set_cons_succ]
           rfl
          refine one_ (i := 15) (N := none) #[true, true, true, true, true, true, true, true, true, true, true, true, true, true, true, true, false] rfl rfl (one_of HT_.out (by kernel_rfl)) (by decide) (fun K hK => ?_)
          have hs38 : w37.cell? ⟨gb307, 0, none⟩ = some (.int .i64 0) := (blk_cell BK307.out 0).trans rfl
          have hfs38 := blk_frozen BK307.out 0
          have hns38_0 := NB292_307.out
          have hns38_1 := NB293_307.out
          have hns38_2 := NB299_307.out
          have hms38_0 := NB307_292.out
          have hms38_1 := NB307_293.out
          have hms38_2 := NB307_299.out
          have hs40 : w37.cell? ⟨gb307, 1, none⟩ = some (.slice none 0 0) := (blk_cell BK307.out 1).trans rfl
          have hfs40 := blk_frozen BK307.out 1
          have hns40_0 := NB292_307.out
          have hns40_1 := NB293_307.out
          have hns40_2 := NB299_307.out
          have hms40_0 := NB307_292.out
          have hms40_1 := NB307_293.out
          have hms40_2 := NB307_299.out
          refine skip_ (w1 := ?_) (by rfl) rfl ?_ ?_
          rotate_left
          ·go_simp
           rfl
          refine hK.out _ _ ⟨((cell_far (p := ⟨gb307, _, none⟩) NB299_307.out _).trans (((cell_far (p := ⟨gb307, _, none⟩) NB299_307.out _).trans (hHeld.1)))), ((cell_far (p := ⟨gb307, _, none⟩) NB299_307.out _).trans (((cell_far (p := ⟨gb307, _, none⟩) NB299_307.out _).trans (hHeld.2.1)))), ((cell_far (p := ⟨gb307, _, none⟩) NB292_307.out _).trans (((cell_far (p := ⟨gb307, _, none⟩) NB292_307.out _).trans (hHeld.2.2.1)))), ((cell_far (p := ⟨gb307, _, none⟩) NB292_307.out _).trans (((cell_far (p := ⟨gb307, _, none⟩) NB292_307.out _).trans (hHeld.2.2.2.1)))), ((cell_far (p := ⟨gb307, _, none⟩) (by first | exact Nat.ne_of_lt (Nat.lt_of_lt_of_le (by have := World.block_lt_of_cell? _ _ hw300_0; first | rwa [add_block] at this | exact this) GW307.out) | (rw [add_block]; exact Nat.ne_of_lt (Nat.lt_of_lt_of_le (by have := World.block_lt_of_cell? _ _ hw300_0; first | rwa [add_block] at this | exact this) GW307.out)) | (show (Addr.add _ _).block ≠ _; rw [add_block]; exact Nat.ne_of_lt (Nat.lt_of_lt_of_le (by have := World.block_lt_of_cell? _ _ hw300_0; first | rwa [add_block] at this | exact this) GW307.out)) | (dsimp only; exact Nat.ne_of_lt (Nat.lt_of_lt_of_le (by have := World.block_lt_of_cell? _ _ hw300_0; first | rwa [add_block] at this | exact this) GW307.out))) _).trans (((cell_far (p := ⟨gb307, _, none⟩) (by first | exact Nat.ne_of_lt (Nat.lt_of_lt_of_le (by have := World.block_lt_of_cell? _ _ hw300_0; first | rwa [add_block] at this | exact this) GW307.out) | (rw [add_block]; exact Nat.ne_of_lt (Nat.lt_of_lt_of_le (by have := World.block_lt_of_cell? _ _ hw300_0; first | rwa [add_block] at this | exact this) GW307.out)) | (show (Addr.add _ _).block ≠ _; rw [add_block]; exact Nat.ne_of_lt (Nat.lt_of_lt_of_le (by have := World.block_lt_of_cell? _ _ hw300_0; first | rwa [add_block] at this | exact this) GW307.out)) | (dsimp only; exact Nat.ne_of_lt (Nat.lt_of_lt_of_le (by have := World.block_lt_of_cell? _ _ hw300_0; first | rwa [add_block] at this | exact this) GW307.out))) _).trans (hHeld.2.2.2.2.1)))), ((cell_far (p := ⟨gb307, _, none⟩) (by first | exact Nat.ne_of_lt (Nat.lt_of_lt_of_le (by have := World.block_lt_of_cell? _ _ hw301_0; first | rwa [add_block] at this | exact this) GW307.out) | (rw [add_block]; exact Nat.ne_of_lt (Nat.lt_of_lt_of_le (by have := World.block_lt_of_cell? _ _ hw301_0; first | rwa [add_block] at this | exact this) GW307.out)) | (show (Addr.add _ _).block ≠ _; rw [add_block]; exact Nat.ne_of_lt (Nat.lt_of_lt_of_le (by have := World.block_lt_of_cell? _ _ hw301_0; first | rwa [add_block] at this | exact this) GW307.out)) | (dsimp only; exact Nat.ne_of_lt (Nat.lt_of_lt_of_le (by have := World.block_lt_of_cell? _ _ hw301_0; first | rwa [add_block] at this | exact this) GW307.out))) _).trans (((cell_far (p := ⟨gb307, _, none⟩) (by first | exact Nat.ne_of_lt (Nat.lt_of_lt_of_le (by have := World.block_lt_of_cell? _ _ hw301_0; first | rwa [add_block] at this | exact this) GW307.out) | (rw [add_block]; exact Nat.ne_of_lt (Nat.lt_of_lt_of_le (by have := World.block_lt_of_cell? _ _ hw301_0; first | rwa [add_block] at this | exact this) GW307.out)) | (show (Addr.add _ _).block ≠ _; rw [add_block]; exact Nat.ne_of_lt (Nat.lt_of_lt_of_le (by have := World.block_lt_of_cell? _ _ hw301_0; first | rwa [add_block] at this | exact this) GW307.out)) | (dsimp only; exact Nat.ne_of_lt (Nat.lt_of_lt_of_le (by have := World.block_lt_of_cell? _ _ hw301_0; first | rwa [add_block] at this | exact this) GW307.out))) _).trans (hHeld.2.2.2.2.2.1)))), ((cell_far (p := ⟨gb307, _, none⟩) (by first | exact Nat.ne_of_lt (Nat.lt_of_lt_of_le (by have := World.block_lt_of_cell? _ _ hw301_1; first | rwa [add_block] at this | exact this) GW307.out) | (rw [add_block]; exact Nat.ne_of_lt (Nat.lt_of_lt_of_le (by have := World.block_lt_of_cell? _ _ hw301_1; first | rwa [add_block] at this | exact this) GW307.out)) | (show (Addr.add _ _).block ≠ _; rw [add_block]; exact Nat.ne_of_lt (Nat.lt_of_lt_of_le (by have := World.block_lt_of_cell? _ _ hw301_1; first | rwa [add_block] at this | exact this) GW307.out)) | (dsimp only; exact Nat.ne_of_lt (Nat.lt_of_lt_of_le (by have := World.block_lt_of_cell? _ _ hw301_1; first | rwa [add_block] at this | exact this) GW307.out))) _).trans (((cell_far (p := ⟨gb307, _, none⟩) (by first | exact Nat.ne_of_lt (Nat.lt_of_lt_of_le (by have := World.block_lt_of_cell? _ _ hw301_1; first | rwa [add_block] at this | exact this) GW307.out) | (rw [add_block]; exact Nat.ne_of_lt (Nat.lt_of_lt_of_le (by have := World.block_lt_of_cell? _ _ hw301_1; first | rwa [add_block] at this | exact this) GW307.out)) | (show (Addr.add _ _).block ≠ _; rw [add_block]; exact Nat.ne_of_lt (Nat.lt_of_lt_of_le (by have := World.block_lt_of_cell? _ _ hw301_1; first | rwa [add_block] at this | exact this) GW307.out)) | (dsimp only; exact Nat.ne_of_lt (Nat.lt_of_lt_of_le (by have := World.block_lt_of_cell? _ _ hw301_1; first | rwa [add_block] at this | exact this) GW307.out))) _).trans (hHeld.2.2.2.2.2.2))))⟩ (fun hHeld => ?_)
          clear hK K
          refine pu 16 (some 9) (v := ?_) (a' := ?_) #[true, true, true, true, true, true, true, true, true, true, true, true, true, true, true, true, true] rfl rfl HT_ (fun _ _ _ h => h) (by rfl) ?_ ?_ ?_
          rotate_left
          ·intro w'
           go_simp
           with_reducible rfl
          rotate_left
          ·simp only [Act.put, z1, z2, z3, i64_w, i32_w]
           rfl
          refine done_ (done_of HT_.out (by kernel_rfl)) ?_
          have p308 : 0 ≤ (x7_2 : Int) := of_decide_eq_true (by first | (with_reducible assumption) | assumption)
          have q308 : x7_2 < (l1.length : Int) := of_decide_eq_true (by first | (with_reducible assumption) | assumption)
          obtain ⟨ad308, e308, hx308_0⟩ := Kd.at_int HR1.out x7_2 p308 q308
          obtain rfl : ad300 = ad308 := (by injection e308)
          have hn308_0 : ad300.block ≠ gb307 := Nat.ne_of_lt (Nat.lt_of_lt_of_le (by have := World.block_lt_of_cell? _ _ hx308_0; first | rwa [add_block] at this | exact this) GW307.out)
          have hn308_1 : ad300.block ≠ gb307 := Nat.ne_of_lt (Nat.lt_of_lt_of_le (by have := World.block_lt_of_cell? _ _ hx308_0; first | rwa [add_block] at this | exact this) GW307.out)
          replace hx308_0 := (HB.out.cell (World.block_lt_of_cell? w _ hx308_0)).trans hx308_0
          replace hx308_0 := (cell_far (p := ⟨gb307, 0, none⟩) (by first | (rw [add_block]; exact hn308_0) | (show (Addr.add _ _).block ≠ _; rw [add_block]; exact hn308_0) | exact hn308_0) (.int .i64 t302)).trans hx308_0
          replace hx308_0 := (cell_far (p := ⟨gb307, 1, none⟩) (by first | (rw [add_block]; exact hn308_1) | (show (Addr.add _ _).block ≠ _; rw [add_block]; exact hn308_1) | exact hn308_1) (.slice Ao39 t303.length co39)).trans hx308_0
          clear hn308_0
          clear hn308_1
          replace p308 := eq_true p308
          replace q308 := eq_true q308
          have := NB293_292.out
          have := NB292_293.out
          have := NB293_299.out
          have := NB299_293.out
          have := NB293_307.out
          have := NB307_293.out
          obtain ⟨_, _, _, _⟩ := cFour BK293
          try go_wp2
          refine bodyPost_ret (results_ct rfl _ _ gb293 36 #[.int .i64 0, .slice none 0 0] (0, 0) _ rfl (by (with_reducible repeat (first | refine blk_drewN ?_ _ | refine blk_drew ?_ | refine blk_alloc ?_ _)); refine blk_put (cs := #[.int .i64 0, .slice none 0 0]) ?_ 1 _ rfl; (with_reducible repeat (first | refine blk_drewN ?_ _ | refine blk_drew ?_ | refine blk_alloc ?_ _)); refine blk_put (cs := #[.int .i64 x294000_2, .slice none 0 0]) ?_ 0 _ rfl; (with_reducible repeat (first | refine blk_drewN ?_ _ | refine blk_drew ?_ | refine blk_alloc ?_ _)); refine blk_far ?_ NB293_307.out _; (with_reducible repeat (first | refine blk_drewN ?_ _ | refine blk_drew ?_ | refine blk_alloc ?_ _)); refine blk_far ?_ NB293_307.out _; (with_reducible repeat (first | refine blk_drewN ?_ _ | refine blk_drew ?_ | refine blk_alloc ?_ _)); exact BK293.out) Try.underlying36 rfl (by kernel_rfl)) rfl ?_
          exact ⟨_, by first | rfl | (simp [errW_none, errW_some] <;> rfl) | (simp [*, errW_none, errW_some] <;> rfl), by first | exact Kd.R_nil _ _ _ _ _ | exact Kd.N_nil _ _ _ _ _ | exact Kd.V_nil _ _ _ _ _ | exact Kd.Q_nil _ _ _ _ _ | exact Kd.S_nil _ _ _ _ _, ms HB⟩
         rw [if_neg c32] at H
         have c32b0 : decide ((rd l1 x7_2) < 0) = false := decide_eq_false c32
         clear c32
         have H' := Aside0.mk H
         clear H
         obtain ⟨Ao45, co45, eo45⟩ := Kd.R_slice HO_300001.out
         subst eo45
         try go_wp2
         replace HO_300001 := Aside0.mk (Kd.R_drew HO_300001.out)
         replace BK292 := Aside0.mk (blk_drew BK292.out)
         replace BK293 := Aside0.mk (blk_drew BK293.out)
         replace BK299 := Aside0.mk (blk_drew BK299.out)
         replace HB := Aside0.mk (below_drew1 HB.out)
         have p300 : 0 ≤ (x7_2 : Int) := of_decide_eq_true (by first | (with_reducible assumption) | assumption)
         have q300 : x7_2 < (l1.length : Int) := of_decide_eq_true (by first | (with_reducible assumption) | assumption)
         obtain ⟨ad300, e300, hx300_0⟩ := Kd.at_int HR1.out x7_2 p300 q300
         have hw300_0 := hx300_0
         cases e300
         replace hx300_0 := (HB.out.cell (World.block_lt_of_cell? w _ hx300_0)).trans hx300_0
         replace p300 := eq_true p300
         replace q300 := eq_true q300
         have p301 : 0 ≤ (x7_2 : Int) := of_decide_eq_true (by first | (with_reducible assumption) | assumption)
         have q301 : x7_2 < (l0_1.length : Int) := of_decide_eq_true (by first | (with_reducible assumption) | assumption)
         obtain ⟨ad301, A301_1, c301_1, e301, hx301_0, hx301_1, hl301_1, hi301_1⟩ := at_T36 HR0_1.out x7_2 p301 q301
         have hw301_1 := hx301_1
         have hw301_0 := hx301_0
         cases e301
         replace hx301_0 := (HB.out.cell (World.block_lt_of_cell? w _ hx301_0)).trans hx301_0
         replace hx301_1 := (HB.out.cell (World.block_lt_of_cell? w _ hx301_1)).trans hx301_1
         have HR301_1 := Aside0.mk hi301_1
         have HC301_1 := Aside0.mk hl301_1
         clear hi301_1 hl301_1
         replace p301 := eq_true p301
         replace q301 := eq_true q301
         refine start_ (n := 17) (S := fun w' => w'.cell? ⟨gb299, 0, none⟩ = some (.int .i64 x300000_2) ∧ w'.cell? ⟨gb299, 1, none⟩ = some (.slice Ao45 x300001_2.length co45) ∧ w'.cell? ⟨gb292, 0, none⟩ = some (.int .i64 a0_0) ∧ w'.cell? ⟨gb292, 1, none⟩ = some (.slice (some ad301) l0_1.length c0_1) ∧ w'.cell? (ad300.add (x7_2).toNat) = some (.int .i64 (rd l1 x7_2)) ∧ w'.cell? (ad301.add ((x7_2).toNat * 2)) = some (.int .i64 ((rd_T36 l0_1 x7_2).f0)) ∧ w'.cell? ⟨(ad301.add ((x7_2).toNat * 2)).block, (ad301.add ((x7_2).toNat * 2)).off + 1, none⟩ = some (.slice A301_1 ((rd_T36 l0_1 x7_2).f1).length c301_1)) (ds := []) #[false, false, false, false, false, false, false, false, false, false, false, false, false, false, false, false, false] (by kernel_rfl) rfl rfl ⟨(c2 BK299).1, (c2 BK299).2, (c2 BK292).1, (c2 BK292).2, ((HB.out.cell (World.block_lt_of_cell? w _ hw300_0)).trans hw300_0), ((HB.out.cell (World.block_lt_of_cell? w _ hw301_0)).trans hw301_0), ((HB.out.cell (World.block_lt_of_cell? w _ hw301_1)).trans hw301_1)⟩ (fun hHeld => ?_); refine with_tabW spec_CombineRows.tab7 spec_CombineRows.bits7 (fun HT_ HW_ => ?_)
         generalize wr.drew = w46 at HO_300001 BK292 BK293 BK299 HB HR301_1 hx300_0 hx301_0 hx301_1 hHeld ⊢
         refine pu 1 (some 33) (v := ?_) (a' := ?_) #[false, true, false, false, false, false, false, false, false, false, false, false, false, false, false, false, false] rfl rfl HT_ (fun _ _ _ h => h) (by rfl) ?_ ?_ ?_
         rotate_left
         ·intro w'
          go_simp
          with_reducible rfl
         rotate_left
         ·simp only [Act.put, z1, z2, z3, i64_w, i32_w]
          rfl
         refine pu 2 (some 34) (v := ?_) (a' := ?_) #[false, true, true, false, false, false, false, false, false, false, false, false, false, false, false, false, false] rfl rfl HT_ (fun _ _ _ h => h) (by rfl) ?_ ?_ ?_
         rotate_left
         ·intro w'
          go_simp
          with_reducible rfl
         rotate_left
         ·simp only [Act.put, z1, z2, z3, i64_w, i32_w]
          rfl
         refine pu 3 (some 35) (v := ?_) (a' := ?_) #[false, true, true, true, false, false, false, false, false, false, false, false, false, false, false, false, false] rfl rfl HT_ (fun _ _ _ h => h) (by rfl) ?_ ?_ ?_
         rotate_left
         ·intro w'
          go_simp
          with_reducible rfl
         rotate_left
         ·simp only [Act.put, z1, z2, z3, i64_w, i32_w]
          rfl
         refine pu 5 (some 37) (v := ?_) (a' := ?_) #[false, true, true, true, false, true, false, false, false, false, false, false, false, false, false, false, false] rfl rfl HT_ (fun _ _ _ h => h) (by rfl) ?_ ?_ ?_
         rotate_left
         ·intro w'
          go_simp
          with_reducible rfl
         rotate_left
         ·simp only [Act.put, z1, z2, z3, i64_w, i32_w]
          rfl
         refine pu 7 (some 39) (v := ?_) (a' := ?_) #[false, true, true, true, false, true, false, true, false, false, false, false, false, false, false, false, false] rfl rfl HT_ (fun _ _ _ h => h) (by rfl) ?_ ?_ ?_
         rotate_left
         ·intro w'
          go_simp
          with_reducible rfl
         rotate_left
         ·simp only [Act.put, z1, z2, z3, i64_w, i32_w]
          rfl
         refine tk 0 (some 32) (v := ?_) (a' := ?_) #[true, true, true, true, false, true, false, true, false, false, false, false, false, false, false, false, false] rfl rfl HT_ HW_ (fun _ _ _ h => h) (by rfl) ?_ hHeld ?_ ?_
         rotate_left
         ·rintro w' ⟨s0, s1, s2, s3, s4, s5, s6⟩
          go_simp
          with_reducible rfl
         rotate_left
         ·simp only [Act.put, z1, z2, z3, i64_w, i32_w]
          rfl
         refine tk 4 (some 36) (v := ?_) (a' := ?_) #[true, true, true, true, true, true, false, true, false, false, false, false, false, false, false, false, false] rfl rfl HT_ HW_ (fun _ _ _ h => h) (by rfl) ?_ hHeld ?_ ?_
         rotate_left
         ·rintro w' ⟨s0, s1, s2, s3, s4, s5, s6⟩
          go_simp
          with_reducible rfl
         rotate_left
         ·simp only [Act.put, z1, z2, z3, i64_w, i32_w]
          rfl
         refine tk 6 (some 38) (v := ?_) (a' := ?_) #[true, true, true, true, true, true, true, true, false, false, false, false, false, false, false, false, false] rfl rfl HT_ HW_ (fun _ _ _ h => h) (by rfl) ?_ hHeld ?_ ?_
         rotate_left
         ·rintro w' ⟨s0, s1, s2, s3, s4, s5, s6⟩
          go_simp
          with_reducible rfl
         rotate_left
         ·simp only [Act.put, z1, z2, z3, i64_w, i32_w]
          rfl
         refine pu 8 (some 40) (v := ?_) (a' := ?_) #[true, true, true, true, true, true, true, true, true, false, false, false, false, false, false, false, false] rfl rfl HT_ (fun _ _ _ h => h) (by rfl) ?_ ?_ ?_
         rotate_left
         ·intro w'
          go_simp
          with_reducible rfl
         rotate_left
         ·simp only [Act.put, z1, z2, z3, i64_w, i32_w]
          rfl
         refine tk 9 (some 41) (v := ?_) (a' := ?_) #[true, true, true, true, true, true, true, true, true, true, false, false, false, false, false, false, false] rfl rfl HT_ HW_ (fun _ _ _ h => h) (by rfl) ?_ hHeld ?_ ?_
         rotate_left
         ·rintro w' ⟨s0, s1, s2, s3, s4, s5, s6⟩
          go_simp
          with_reducible rfl
         rotate_left
         ·simp only [Act.put, z1, z2, z3, i64_w, i32_w]
          rfl
         refine join_ (σ := Value × Nat) 2 #[true, true, true, true, true, true, true, true, true, true, true, true, true, true, true, false, false] (fun s_ => [(42, .tuple #[.agg #[.int .i64 t302, s_.1], .bool true]), (8, .pointer (some ⟨s_.2, 0, none⟩)), (31, .tuple #[.agg #[.int .i64 t302, s_.1], .bool true]), (43, .agg #[.int .i64 t302, s_.1]), (44, .bool true)]) (fun s_ w' => (w'.cell? ⟨gb299, 0, none⟩ = some (.int .i64 x300000_2) ∧ w'.cell? ⟨gb299, 1, none⟩ = some (.slice Ao45 x300001_2.length co45) ∧ w'.cell? ⟨gb292, 0, none⟩ = some (.int .i64 a0_0) ∧ w'.cell? ⟨gb292, 1, none⟩ = some (.slice (some ad301) l0_1.length c0_1) ∧ w'.cell? (ad300.add (x7_2).toNat) = some (.int .i64 (rd l1 x7_2)) ∧ w'.cell? (ad301.add ((x7_2).toNat * 2)) = some (.int .i64 ((rd_T36 l0_1 x7_2).f0)) ∧ w'.cell? ⟨(ad301.add ((x7_2).toNat * 2)).block, (ad301.add ((x7_2).toNat * 2)).off + 1, none⟩ = some (.slice A301_1 ((rd_T36 l0_1 x7_2).f1).length c301_1)) ∧ (Kd.R (Kd.int .i64) 3 w' w.heap.size (fun k_ => some k_ ≠ (.slice Ao45 x300001_2.length co45 : Value).ownBlock) s_.1 t303) ∧ (Kd.R (Kd.int .i64) 3 w' w.heap.size (fun k_ => some k_ ≠ (s_.1 : Value).ownBlock) (.slice Ao45 x300001_2.length co45) x300001_2) ∧ (w'.heap[gb292]? = some (.cells #[.int .i64 a0_0, .slice (some ad301) l0_1.length c0_1] 33 (0, 0))) ∧ (w'.heap[gb293]? = some (.cells #[.int .i64 x294000_2, .slice none 0 0] 36 (0, 0))) ∧ (w'.heap[gb299]? = some (.cells #[.int .i64 x300000_2, .slice Ao45 x300001_2.length co45] 36 (0, 0))) ∧ (w'.heap[s_.2]? = some (.cells #[.int .i64 0, .slice none 0 0] 36 (0, 0))) ∧ (w.heap.size ≤ s_.2) ∧ (w.heap.size ≤ s_.2) ∧ (gb292 ≠ s_.2) ∧ (s_.2 ≠ gb292) ∧ (gb293 ≠ s_.2) ∧ (s_.2 ≠ gb293) ∧ (gb299 ≠ s_.2) ∧ (s_.2 ≠ gb299) ∧ (Below w.heap.size w w')) ?_ ?_
         rotate_left
         ·intro hCont
          refine two_ (i := 10) (j := 14) (Ni := some 42) (Nj := some 8) #[true, true, true, true, true, true, true, true, true, true, true, false, false, false, false, false, false] #[true, true, true, true, true, true, true, true, true, true, false, false, false, false, true, false, false] rfl rfl rfl rfl (two_of HT_.out (by kernel_rfl)) (by decide) (by decide) (fun K hK => ?_) (fun K hK => ?_)
          ·skip
           refine gs Try.func69 (by kernel_rfl) rfl #[.agg #[.int .i64 x300000_2, .slice Ao45 x300001_2.length co45], .int .i64 (rd l1 x7_2), .agg #[.int .i64 ((rd_T36 l0_1 x7_2).f0), .slice A301_1 ((rd_T36 l0_1 x7_2).f1).length c301_1]] (by rfl) rfl rfl ?_
           with_reducible refine (spec_AddScaled.calls k2 x300000_2 _ _ x300001_2 (rd l1 x7_2) ((rd_T36 l0_1 x7_2).f0) _ _ ((rd_T36 l0_1 x7_2).f1) t302 t303 true _ ?side1 ?side2 ?side3 ?side4 A30.out).mono ?_
           (case side1 => exact mc ((Kd.R_reads' HO_300001.out).2.2))
           (case side2 => exact (Kd.R_reads' HO_300001.out).2.1)
           (case side3 => exact mc ((Kd.C_below HR301_1.out HB.out)))
           (case side4 => exact HC301_1.out)
           rintro e w47 ⟨v304, rfl, ho0, hb⟩
           refine ⟨_, rfl, ?_⟩
           have HO305 := Aside0.mk (Kd.R_lower (Kd.R_new' ho0 (Kd.R_lt (mr HO_300001))) (below_size (ms HB)))
           replace HO_300001 := rl HO_300001 ho0 hb
           replace BK292 := bb BK292 hb
           replace BK293 := bb BK293 hb
           replace BK299 := bb BK299 hb
           replace HB := bs HB hb
           (try clear hb)
           (try clear hb2)
           (try clear hk)
           (try clear hi)
           (try clear ho0)
           refine hK.out _ _ ⟨(c2 BK299).1, (c2 BK299).2, (c2 BK292).1, (c2 BK292).2, ((HB.out.cell (World.block_lt_of_cell? w _ hw300_0)).trans hw300_0), ((HB.out.cell (World.block_lt_of_cell? w _ hw301_0)).trans hw301_0), ((HB.out.cell (World.block_lt_of_cell? w _ hw301_1)).trans hw301_1)⟩ (fun hHeld => ?_)
           clear hK K
           refine norm_ (a' := ?_) ?_ ?_
           rotate_left
           ·show Act.put _ (some 42) _ = _
            simp only [Act.put, z1, z2, z3, i64_w, i32_w]
            rfl
           refine pu 11 (some 31) (v := ?_) (a' := ?_) #[true, true, true, true, true, true, true, true, true, true, true, true, false, false, false, false, false] rfl rfl HT_ (fun _ _ _ h => h) (by rfl) ?_ ?_ ?_
           rotate_left
           ·intro w'
            go_simp
            with_reducible rfl
           rotate_left
           ·simp only [Act.put, z1, z2, z3, i64_w, i32_w]
            rfl
           refine pu 12 (some 43) (v := ?_) (a' := ?_) #[true, true, true, true, true, true, true, true, true, true, true, true, true, false, false, false, false] rfl rfl HT_ (fun _ _ _ h => h) (by rfl) ?_ ?_ ?_
           rotate_left
           ·intro w'
            go_simp
            with_reducible rfl
           rotate_left
           ·simp only [Act.put, z1, z2, z3, i64_w, i32_w]
            rfl
           refine pu 13 (some 44) (v := ?_) (a' := ?_) #[true, true, true, true, true, true, true, true, true, true, true, true, true, true, false, false, false] rfl rfl HT_ (fun _ _ _ h => h) (by rfl) ?_ ?_ ?_
           rotate_left
           ·intro w'
            go_simp
            with_reducible rfl
           rotate_left
           ·simp only [Act.put, z1, z2, z3, i64_w, i32_w]
            rfl
           refine one_ (i := 14) (N := some 8) #[true, true, true, true, true, true, true, true, true, true, true, true, true, true, true, false, false] rfl rfl (one_of HT_.out (by kernel_rfl)) (by decide) (fun K hK => ?_)
           refine box_step ?hg (N := 8) ?hd (cs := #[.int .i64 0, .slice none 0 0]) (t := 36) ?hr ?_; (case hd => rfl); (case hg => rfl); (case hr => first | (go_simp; done) | (go_simp; rfl))
           intro gb307 hg w48 hbox hb
           replace HO_300001 := rb HO_300001 hb
           replace HO305 := rb HO305 hb
           have BK307 := Aside0.mk (hbox)
           have GW307 := gw hg HB
           have GE307 := gw hg HB
           replace HB := bs HB hb
           have NB292_307 := nl hg BK292
           have NB307_292 := ng hg BK292
           replace BK292 := bb BK292 hb
           have NB293_307 := nl hg BK293
           have NB307_293 := ng hg BK293
           replace BK293 := bb BK293 hb
           have NB299_307 := nl hg BK299
           have NB307_299 := ng hg BK299
           replace BK299 := bb BK299 hb
           clear hb hbox hg
           refine hK.out _ _ ⟨(c2 BK299).1, (c2 BK299).2, (c2 BK292).1, (c2 BK292).2, ((HB.out.cell (World.block_lt_of_cell? w _ hw300_0)).trans hw300_0), ((HB.out.cell (World.block_lt_of_cell? w _ hw301_0)).trans hw301_0), ((HB.out.cell (World.block_lt_of_cell? w _ hw301_1)).trans hw301_1)⟩ (fun hHeld => ?_)
           clear hK K
           refine norm_ (a' := ?_) ?_ ?_
           rotate_left
           ·show Act.put _ (some 8) _ = _
            simp only [Act.put, z1, z2, z3, i64_w, i32_w]
            rfl
           exact norm_ (by simp only [putAll, Act.put, List.setIfInBounds_toArray, List.set_cons_zero, List.set_cons_succ]) (hCont (v304, gb307) _ ⟨hHeld, (by (with_reducible repeat (first | apply Kd.R_alloc | apply Kd.R_drewN | apply Kd.R_drew)); exact Kd.R_mono HO305.out (fun _ hk => hk.2)), (by (with_reducible repeat (first | apply Kd.R_alloc | apply Kd.R_drewN | apply Kd.R_drew)); exact Kd.R_mono HO_300001.out (fun _ hk => hk.2)), (mb BK292), (mb BK293), (mb BK299), (mb BK307), GW307.out, GE307.out, NB292_307.out, NB307_292.out, NB293_307.out, NB307_293.out, NB299_307.out, NB307_299.out, (ms HB)⟩)
          skip
          refine box_step ?hg (N := 8) ?hd (cs := #[.int .i64 0, .slice none 0 0]) (t := 36) ?hr ?_; (case hd => rfl); (case hg => rfl); (case hr => first | (go_simp; done) | (go_simp; rfl))
          intro gb307 hg w47 hbox hb
          replace HO_300001 := rb HO_300001 hb
          have BK307 := Aside0.mk (hbox)
          have GW307 := gw hg HB
          have GE307 := gw hg HB
          replace HB := bs HB hb
          have NB292_307 := nl hg BK292
          have NB307_292 := ng hg BK292
          replace BK292 := bb BK292 hb
          have NB293_307 := nl hg BK293
          have NB307_293 := ng hg BK293
          replace BK293 := bb BK293 hb
          have NB299_307 := nl hg BK299
          have NB307_299 := ng hg BK299
          replace BK299 := bb BK299 hb
          clear hb hbox hg
          refine hK.out _ _ ⟨(c2 BK299).1, (c2 BK299).2, (c2 BK292).1, (c2 BK292).2, ((HB.out.cell (World.block_lt_of_cell? w _ hw300_0)).trans hw300_0), ((HB.out.cell (World.block_lt_of_cell? w _ hw301_0)).trans hw301_0), ((HB.out.cell (World.block_lt_of_cell? w _ hw301_1)).trans hw301_1)⟩ (fun hHeld => ?_)
          clear hK K
          refine norm_ (a' := ?_) ?_ ?_
          rotate_left
          ·show Act.put _ (some 8) _ = _
           simp only [Act.put, z1, z2, z3, i64_w, i32_w]
           rfl
          refine one_ (i := 10) (N := some 42) #[true, true, true, true, true, true, true, true, true, true, true, false, false, false, true, false, false] rfl rfl (one_of HT_.out (by kernel_rfl)) (by decide) (fun K hK => ?_)
          refine gs Try.func69 (by kernel_rfl) rfl #[.agg #[.int .i64 x300000_2, .slice Ao45 x300001_2.length co45], .int .i64 (rd l1 x7_2), .agg #[.int .i64 ((rd_T36 l0_1 x7_2).f0), .slice A301_1 ((rd_T36 l0_1 x7_2).f1).length c301_1]] (by rfl) rfl rfl ?_
          with_reducible refine (spec_AddScaled.calls k2 x300000_2 _ _ x300001_2 (rd l1 x7_2) ((rd_T36 l0_1 x7_2).f0) _ _ ((rd_T36 l0_1 x7_2).f1) t302 t303 true _ ?side1 ?side2 ?side3 ?side4 A30.out).mono ?_
          (case side1 => exact mc ((Kd.R_reads' HO_300001.out).2.2))
          (case side2 => exact (Kd.R_reads' HO_300001.out).2.1)
          (case side3 => exact mc ((Kd.C_below HR301_1.out HB.out)))
          (case side4 => exact HC301_1.out)
          rintro e w48 ⟨v304, rfl, ho0, hb⟩
          refine ⟨_, rfl, ?_⟩
          have HO305 := Aside0.mk (Kd.R_lower (Kd.R_new' ho0 (Kd.R_lt (mr HO_300001))) (below_size (ms HB)))
          replace HO_300001 := rl HO_300001 ho0 hb
          replace BK292 := bb BK292 hb
          replace BK293 := bb BK293 hb
          replace BK299 := bb BK299 hb
          replace BK307 := bb BK307 hb
          replace HB := bs HB hb
          (try clear hb)
          (try clear hb2)
          (try clear hk)
          (try clear hi)
          (try clear ho0)
          refine hK.out _ _ ⟨(c2 BK299).1, (c2 BK299).2, (c2 BK292).1, (c2 BK292).2, ((HB.out.cell (World.block_lt_of_cell? w _ hw300_0)).trans hw300_0), ((HB.out.cell (World.block_lt_of_cell? w _ hw301_0)).trans hw301_0), ((HB.out.cell (World.block_lt_of_cell? w _ hw301_1)).trans hw301_1)⟩ (fun hHeld => ?_)
          clear hK K
          refine norm_ (a' := ?_) ?_ ?_
          rotate_left
          ·show Act.put _ (some 42) _ = _
           simp only [Act.put, z1, z2, z3, i64_w, i32_w]
           rfl
          refine pu 11 (some 31) (v := ?_) (a' := ?_) #[true, true, true, true, true, true, true, true, true, true, true, true, false, false, true, false, false] rfl rfl HT_ (fun _ _ _ h => h) (by rfl) ?_ ?_ ?_
          rotate_left
          ·intro w'
           go_simp
           with_reducible rfl
          rotate_left
          ·simp only [Act.put, z1, z2, z3, i64_w, i32_w]
           rfl
          refine pu 12 (some 43) (v := ?_) (a' := ?_) #[true, true, true, true, true, true, true, true, true, true, true, true, true, false, true, false, false] rfl rfl HT_ (fun _ _ _ h => h) (by rfl) ?_ ?_ ?_
          rotate_left
          ·intro w'
           go_simp
           with_reducible rfl
          rotate_left
          ·simp only [Act.put, z1, z2, z3, i64_w, i32_w]
           rfl
          refine pu 13 (some 44) (v := ?_) (a' := ?_) #[true, true, true, true, true, true, true, true, true, true, true, true, true, true, true, false, false] rfl rfl HT_ (fun _ _ _ h => h) (by rfl) ?_ ?_ ?_
          rotate_left
          ·intro w'
           go_simp
           with_reducible rfl
          rotate_left
          ·simp only [Act.put, z1, z2, z3, i64_w, i32_w]
           rfl
          exact norm_ (by simp only [putAll, Act.put, List.setIfInBounds_toArray, List.set_cons_zero, List.set_cons_succ]) (hCont (v304, gb307) _ ⟨hHeld, (by (with_reducible repeat (first | apply Kd.R_alloc | apply Kd.R_drewN | apply Kd.R_drew)); exact Kd.R_mono HO305.out (fun _ hk => hk.2)), (by (with_reducible repeat (first | apply Kd.R_alloc | apply Kd.R_drewN | apply Kd.R_drew)); exact Kd.R_mono HO_300001.out (fun _ hk => hk.2)), (mb BK292), (mb BK293), (mb BK299), (mb BK307), GW307.out, GE307.out, NB292_307.out, NB307_292.out, NB293_307.out, NB307_293.out, NB299_307.out, NB307_299.out, (ms HB)⟩)
         rintro ⟨v304, gb307⟩ w49 ⟨hS_, h0_, h1_, h2_, h3_, h4_, h5_, h6_, h7_, h8_, h9_, h10_, h11_, h12_, h13_, h14_⟩
         have n0_ : Aside0 (Kd.R (Kd.int .i64) 3 w49 w.heap.size (fun k_ => some k_ ≠ (.slice Ao45 x300001_2.length co45 : Value).ownBlock) v304 t303) := ⟨h0_⟩
         have n1_ : Aside0 (Kd.R (Kd.int .i64) 3 w49 w.heap.size (fun k_ => some k_ ≠ (v304 : Value).ownBlock) (.slice Ao45 x300001_2.length co45) x300001_2) := ⟨h1_⟩
         have n2_ : Aside0 (w49.heap[gb292]? = some (.cells #[.int .i64 a0_0, .slice (some ad301) l0_1.length c0_1] 33 (0, 0))) := ⟨h2_⟩
         have n3_ : Aside0 (w49.heap[gb293]? = some (.cells #[.int .i64 x294000_2, .slice none 0 0] 36 (0, 0))) := ⟨h3_⟩
         have n4_ : Aside0 (w49.heap[gb299]? = some (.cells #[.int .i64 x300000_2, .slice Ao45 x300001_2.length co45] 36 (0, 0))) := ⟨h4_⟩
         have n5_ : Aside0 (w49.heap[gb307]? = some (.cells #[.int .i64 0, .slice none 0 0] 36 (0, 0))) := ⟨h5_⟩
         have n6_ : Aside0 (w.heap.size ≤ gb307) := ⟨h6_⟩
         have n7_ : Aside0 (w.heap.size ≤ gb307) := ⟨h7_⟩
         have n8_ : Aside0 (gb292 ≠ gb307) := ⟨h8_⟩
         have n9_ : Aside0 (gb307 ≠ gb292) := ⟨h9_⟩
         have n10_ : Aside0 (gb293 ≠ gb307) := ⟨h10_⟩
         have n11_ : Aside0 (gb307 ≠ gb293) := ⟨h11_⟩
         have n12_ : Aside0 (gb299 ≠ gb307) := ⟨h12_⟩
         have n13_ : Aside0 (gb307 ≠ gb299) := ⟨h13_⟩
         have n14_ : Aside0 (Below w.heap.size w w49) := ⟨h14_⟩
         clear HO_300001
         clear BK292
         clear BK293
         clear BK299
         clear HB
         clear h0_ h1_ h2_ h3_ h4_ h5_ h6_ h7_ h8_ h9_ h10_ h11_ h12_ h13_ h14_
         have HO305 := n0_
         have HO_300001 := n1_
         have BK292 := n2_
         have BK293 := n3_
         have BK299 := n4_
         have BK307 := n5_
         have GW307 := n6_
         have GE307 := n7_
         have NB292_307 := n8_
         have NB307_292 := n9_
         have NB293_307 := n10_
         have NB307_293 := n11_
         have NB299_307 := n12_
         have NB307_299 := n13_
         have HB := n14_
         clear n0_ n1_ n2_ n3_ n4_ n5_ n6_ n7_ n8_ n9_ n10_ n11_ n12_ n13_ n14_
         have hHeld : w49.cell? ⟨gb299, 0, none⟩ = some (.int .i64 x300000_2) ∧ w49.cell? ⟨gb299, 1, none⟩ = some (.slice Ao45 x300001_2.length co45) ∧ w49.cell? ⟨gb292, 0, none⟩ = some (.int .i64 a0_0) ∧ w49.cell? ⟨gb292, 1, none⟩ = some (.slice (some ad301) l0_1.length c0_1) ∧ w49.cell? (ad300.add (x7_2).toNat) = some (.int .i64 (rd l1 x7_2)) ∧ w49.cell? (ad301.add ((x7_2).toNat * 2)) = some (.int .i64 ((rd_T36 l0_1 x7_2).f0)) ∧ w49.cell? ⟨(ad301.add ((x7_2).toNat * 2)).block, (ad301.add ((x7_2).toNat * 2)).off + 1, none⟩ = some (.slice A301_1 ((rd_T36 l0_1 x7_2).f1).length c301_1) := hS_
         obtain ⟨Ao51, co51, eo51⟩ := Kd.R_slice HO305.out
         (first | subst eo51 | (injection eo51 with f1_ f2_ f3_; have f4_ := f1_.symm; have f5_ := f3_.symm; clear f1_ f2_ f3_; subst f4_; subst f5_))
         refine norm_ (a' := ?_) ?_ ?_
         rotate_left
         ·simp only [putAll, Act.put, List.setIfInBounds_toArray, List.set_cons_zero, List.set_cons_succ]
          rfl
         refine one_ (i := 15) (N := none) #[true, true, true, true, true, true, true, true, true, true, true, true, true, true, true, true, false] rfl rfl (one_of HT_.out (by kernel_rfl)) (by decide) (fun K hK => ?_)
         have hs50 : w49.cell? ⟨gb307, 0, none⟩ = some (.int .i64 0) := (blk_cell BK307.out 0).trans rfl
         have hfs50 := blk_frozen BK307.out 0
         have hns50_0 := NB292_307.out
         have hns50_1 := NB293_307.out
         have hns50_2 := NB299_307.out
         have hms50_0 := NB307_292.out
         have hms50_1 := NB307_293.out
         have hms50_2 := NB307_299.out
         have hs52 : w49.cell? ⟨gb307, 1, none⟩ = some (.slice none 0 0) := (blk_cell BK307.out 1).trans rfl
         have hfs52 := blk_frozen BK307.out 1
         have hns52_0 := NB292_307.out
         have hns52_1 := NB293_307.out
         have hns52_2 := NB299_307.out
         have hms52_0 := NB307_292.out
         have hms52_1 := NB307_293.out
         have hms52_2 := NB307_299.out
         refine skip_ (w1 := ?_) (by rfl) rfl ?_ ?_
         rotate_left
         ·go_simp
          rfl
         refine hK.out _ _ ⟨((cell_far (p := ⟨gb307, _, none⟩) NB299_307.out _).trans (((cell_far (p := ⟨gb307, _, none⟩) NB299_307.out _).trans (hHeld.1)))), ((cell_far (p := ⟨gb307, _, none⟩) NB299_307.out _).trans (((cell_far (p := ⟨gb307, _, none⟩) NB299_307.out _).trans (hHeld.2.1)))), ((cell_far (p := ⟨gb307, _, none⟩) NB292_307.out _).trans (((cell_far (p := ⟨gb307, _, none⟩) NB292_307.out _).trans (hHeld.2.2.1)))), ((cell_far (p := ⟨gb307, _, none⟩) NB292_307.out _).trans (((cell_far (p := ⟨gb307, _, none⟩) NB292_307.out _).trans (hHeld.2.2.2.1)))), ((cell_far (p := ⟨gb307, _, none⟩) (by first | exact Nat.ne_of_lt (Nat.lt_of_lt_of_le (by have := World.block_lt_of_cell? _ _ hw300_0; first | rwa [add_block] at this | exact this) GW307.out) | (rw [add_block]; exact Nat.ne_of_lt (Nat.lt_of_lt_of_le (by have := World.block_lt_of_cell? _ _ hw300_0; first | rwa [add_block] at this | exact this) GW307.out)) | (show (Addr.add _ _).block ≠ _; rw [add_block]; exact Nat.ne_of_lt (Nat.lt_of_lt_of_le (by have := World.block_lt_of_cell? _ _ hw300_0; first | rwa [add_block] at this | exact this) GW307.out)) | (dsimp only; exact Nat.ne_of_lt (Nat.lt_of_lt_of_le (by have := World.block_lt_of_cell? _ _ hw300_0; first | rwa [add_block] at this | exact this) GW307.out))) _).trans (((cell_far (p := ⟨gb307, _, none⟩) (by first | exact Nat.ne_of_lt (Nat.lt_of_lt_of_le (by have := World.block_lt_of_cell? _ _ hw300_0; first | rwa [add_block] at this | exact this) GW307.out) | (rw [add_block]; exact Nat.ne_of_lt (Nat.lt_of_lt_of_le (by have := World.block_lt_of_cell? _ _ hw300_0; first | rwa [add_block] at this | exact this) GW307.out)) | (show (Addr.add _ _).block ≠ _; rw [add_block]; exact Nat.ne_of_lt (Nat.lt_of_lt_of_le (by have := World.block_lt_of_cell? _ _ hw300_0; first | rwa [add_block] at this | exact this) GW307.out)) | (dsimp only; exact Nat.ne_of_lt (Nat.lt_of_lt_of_le (by have := World.block_lt_of_cell? _ _ hw300_0; first | rwa [add_block] at this | exact this) GW307.out))) _).trans (hHeld.2.2.2.2.1)))), ((cell_far (p := ⟨gb307, _, none⟩) (by first | exact Nat.ne_of_lt (Nat.lt_of_lt_of_le (by have := World.block_lt_of_cell? _ _ hw301_0; first | rwa [add_block] at this | exact this) GW307.out) | (rw [add_block]; exact Nat.ne_of_lt (Nat.lt_of_lt_of_le (by have := World.block_lt_of_cell? _ _ hw301_0; first | rwa [add_block] at this | exact this) GW307.out)) | (show (Addr.add _ _).block ≠ _; rw [add_block]; exact Nat.ne_of_lt (Nat.lt_of_lt_of_le (by have := World.block_lt_of_cell? _ _ hw301_0; first | rwa [add_block] at this | exact this) GW307.out)) | (dsimp only; exact Nat.ne_of_lt (Nat.lt_of_lt_of_le (by have := World.block_lt_of_cell? _ _ hw301_0; first | rwa [add_block] at this | exact this) GW307.out))) _).trans (((cell_far (p := ⟨gb307, _, none⟩) (by first | exact Nat.ne_of_lt (Nat.lt_of_lt_of_le (by have := World.block_lt_of_cell? _ _ hw301_0; first | rwa [add_block] at this | exact this) GW307.out) | (rw [add_block]; exact Nat.ne_of_lt (Nat.lt_of_lt_of_le (by have := World.block_lt_of_cell? _ _ hw301_0; first | rwa [add_block] at this | exact this) GW307.out)) | (show (Addr.add _ _).block ≠ _; rw [add_block]; exact Nat.ne_of_lt (Nat.lt_of_lt_of_le (by have := World.block_lt_of_cell? _ _ hw301_0; first | rwa [add_block] at this | exact this) GW307.out)) | (dsimp only; exact Nat.ne_of_lt (Nat.lt_of_lt_of_le (by have := World.block_lt_of_cell? _ _ hw301_0; first | rwa [add_block] at this | exact this) GW307.out))) _).trans (hHeld.2.2.2.2.2.1)))), ((cell_far (p := ⟨gb307, _, none⟩) (by first | exact Nat.ne_of_lt (Nat.lt_of_lt_of_le (by have := World.block_lt_of_cell? _ _ hw301_1; first | rwa [add_block] at this | exact this) GW307.out) | (rw [add_block]; exact Nat.ne_of_lt (Nat.lt_of_lt_of_le (by have := World.block_lt_of_cell? _ _ hw301_1; first | rwa [add_block] at this | exact this) GW307.out)) | (show (Addr.add _ _).block ≠ _; rw [add_block]; exact Nat.ne_of_lt (Nat.lt_of_lt_of_le (by have := World.block_lt_of_cell? _ _ hw301_1; first | rwa [add_block] at this | exact this) GW307.out)) | (dsimp only; exact Nat.ne_of_lt (Nat.lt_of_lt_of_le (by have := World.block_lt_of_cell? _ _ hw301_1; first | rwa [add_block] at this | exact this) GW307.out))) _).trans (((cell_far (p := ⟨gb307, _, none⟩) (by first | exact Nat.ne_of_lt (Nat.lt_of_lt_of_le (by have := World.block_lt_of_cell? _ _ hw301_1; first | rwa [add_block] at this | exact this) GW307.out) | (rw [add_block]; exact Nat.ne_of_lt (Nat.lt_of_lt_of_le (by have := World.block_lt_of_cell? _ _ hw301_1; first | rwa [add_block] at this | exact this) GW307.out)) | (show (Addr.add _ _).block ≠ _; rw [add_block]; exact Nat.ne_of_lt (Nat.lt_of_lt_of_le (by have := World.block_lt_of_cell? _ _ hw301_1; first | rwa [add_block] at this | exact this) GW307.out)) | (dsimp only; exact Nat.ne_of_lt (Nat.lt_of_lt_of_le (by have := World.block_lt_of_cell? _ _ hw301_1; first | rwa [add_block] at this | exact this) GW307.out))) _).trans (hHeld.2.2.2.2.2.2))))⟩ (fun hHeld => ?_)
         clear hK K
         refine pu 16 (some 9) (v := ?_) (a' := ?_) #[true, true, true, true, true, true, true, true, true, true, true, true, true, true, true, true, true] rfl rfl HT_ (fun _ _ _ h => h) (by rfl) ?_ ?_ ?_
         rotate_left
         ·intro w'
          go_simp
          with_reducible rfl
         rotate_left
         ·simp only [Act.put, z1, z2, z3, i64_w, i32_w]
          rfl
         refine done_ (done_of HT_.out (by kernel_rfl)) ?_
         have p308 : 0 ≤ (x7_2 : Int) := of_decide_eq_true (by first | (with_reducible assumption) | assumption)
         have q308 : x7_2 < (l1.length : Int) := of_decide_eq_true (by first | (with_reducible assumption) | assumption)
         obtain ⟨ad308, e308, hx308_0⟩ := Kd.at_int HR1.out x7_2 p308 q308
         obtain rfl : ad300 = ad308 := (by injection e308)
         have hn308_0 : ad300.block ≠ gb307 := Nat.ne_of_lt (Nat.lt_of_lt_of_le (by have := World.block_lt_of_cell? _ _ hx308_0; first | rwa [add_block] at this | exact this) GW307.out)
         have hn308_1 : ad300.block ≠ gb307 := Nat.ne_of_lt (Nat.lt_of_lt_of_le (by have := World.block_lt_of_cell? _ _ hx308_0; first | rwa [add_block] at this | exact this) GW307.out)
         replace hx308_0 := (HB.out.cell (World.block_lt_of_cell? w _ hx308_0)).trans hx308_0
         replace hx308_0 := (cell_far (p := ⟨gb307, 0, none⟩) (by first | (rw [add_block]; exact hn308_0) | (show (Addr.add _ _).block ≠ _; rw [add_block]; exact hn308_0) | exact hn308_0) (.int .i64 t302)).trans hx308_0
         replace hx308_0 := (cell_far (p := ⟨gb307, 1, none⟩) (by first | (rw [add_block]; exact hn308_1) | (show (Addr.add _ _).block ≠ _; rw [add_block]; exact hn308_1) | exact hn308_1) (.slice Ao51 t303.length co51)).trans hx308_0
         clear hn308_0
         clear hn308_1
         replace p308 := eq_true p308
         replace q308 := eq_true q308
         have := NB307_292.out
         have := NB292_307.out
         have := NB307_293.out
         have := NB293_307.out
         have := NB307_299.out
         have := NB299_307.out
         obtain ⟨_, _, _, _⟩ := cFour BK307
         have := NB299_292.out
         have := NB292_299.out
         have := NB299_293.out
         have := NB293_299.out
         obtain ⟨_, _, _, _⟩ := cFour BK299
         try go_wp2
         go_roundg k2
         case measure => have := HJ2.out; have := HK2.out; omega
         case rel => exact ⟨(wrap64 (x7_2 + 1)), (x294000_2), (t302), (t303), (.slice Ao51 t303.length co51), (by first | rfl | (simp; done) | (simp [*]; done)), H', ⟨by have := HJ2.out; have := HK2.out; omega⟩, ⟨by (with_reducible repeat (first | apply Kd.R_alloc | apply Kd.R_drewN | apply Kd.R_drew)); exact Kd.R_mono (Kd.R_far (p := ⟨gb299, 1, none⟩) (Kd.R_far (p := ⟨gb299, 0, none⟩) (Kd.R_far (p := ⟨gb307, 1, none⟩) (Kd.R_far (p := ⟨gb307, 0, none⟩) (Kd.R_types (Kd.R_types HO305.out BK307.out (by decide)) BK299.out (by decide)) (fun _ hk => hk.1.2) (.int .i64 t302)) (fun _ hk => hk.1.2) (.slice Ao51 t303.length co51)) (fun _ hk => hk.2) (.int .i64 t302)) (fun _ hk => hk.2) (.slice Ao51 t303.length co51)) (fun _ hk => trivial)⟩, ⟨mf BK292⟩, ⟨mf BK293⟩, ⟨by (with_reducible repeat (first | refine blk_drewN ?_ _ | refine blk_drew ?_ | refine blk_alloc ?_ _)); refine blk_put (cs := #[.int .i64 t302, .slice Ao45 x300001_2.length co45]) ?_ 1 _ rfl; (with_reducible repeat (first | refine blk_drewN ?_ _ | refine blk_drew ?_ | refine blk_alloc ?_ _)); refine blk_put (cs := #[.int .i64 x300000_2, .slice Ao45 x300001_2.length co45]) ?_ 0 _ rfl; (with_reducible repeat (first | refine blk_drewN ?_ _ | refine blk_drew ?_ | refine blk_alloc ?_ _)); refine blk_far ?_ NB299_307.out _; (with_reducible repeat (first | refine blk_drewN ?_ _ | refine blk_drew ?_ | refine blk_alloc ?_ _)); refine blk_far ?_ NB299_307.out _; (with_reducible repeat (first | refine blk_drewN ?_ _ | refine blk_drew ?_ | refine blk_alloc ?_ _)); exact BK299.out⟩, ⟨ms HB⟩⟩
        replace c31 := Bool.eq_false_iff.mpr c31
        subst c31
        have H1 : (some (0, ([] : List Int), false)) = some (r1, r2, r3) := by rw [if_neg (show ¬ (false = true) by decide)] at H; exact H
        clear H
        have H := H1
        clear H1
        simp only [Option.some.injEq, Prod.mk.injEq] at H
        obtain ⟨rfl, rfl, rfl⟩ := H
        obtain ⟨Ao60, co60, eo60⟩ := Kd.R_slice HO_300001.out
        subst eo60
        try go_wp2
        replace HO_300001 := Aside0.mk (Kd.R_drew HO_300001.out)
        replace BK292 := Aside0.mk (blk_drew BK292.out)
        replace BK293 := Aside0.mk (blk_drew BK293.out)
        replace BK299 := Aside0.mk (blk_drew BK299.out)
        replace HB := Aside0.mk (below_drew1 HB.out)
        have p300 : 0 ≤ (x7_2 : Int) := of_decide_eq_true (by first | (with_reducible assumption) | assumption)
        have q300 : x7_2 < (l1.length : Int) := of_decide_eq_true (by first | (with_reducible assumption) | assumption)
        obtain ⟨ad300, e300, hx300_0⟩ := Kd.at_int HR1.out x7_2 p300 q300
        have hw300_0 := hx300_0
        cases e300
        replace hx300_0 := (HB.out.cell (World.block_lt_of_cell? w _ hx300_0)).trans hx300_0
        replace p300 := eq_true p300
        replace q300 := eq_true q300
        have p301 : 0 ≤ (x7_2 : Int) := of_decide_eq_true (by first | (with_reducible assumption) | assumption)
        have q301 : x7_2 < (l0_1.length : Int) := of_decide_eq_true (by first | (with_reducible assumption) | assumption)
        obtain ⟨ad301, A301_1, c301_1, e301, hx301_0, hx301_1, hl301_1, hi301_1⟩ := at_T36 HR0_1.out x7_2 p301 q301
        have hw301_1 := hx301_1
        have hw301_0 := hx301_0
        cases e301
        replace hx301_0 := (HB.out.cell (World.block_lt_of_cell? w _ hx301_0)).trans hx301_0
        replace hx301_1 := (HB.out.cell (World.block_lt_of_cell? w _ hx301_1)).trans hx301_1
        have HR301_1 := Aside0.mk hi301_1
        have HC301_1 := Aside0.mk hl301_1
        clear hi301_1 hl301_1
        replace p301 := eq_true p301
        replace q301 := eq_true q301
        refine start_ (n := 17) (S := fun w' => w'.cell? ⟨gb299, 0, none⟩ = some (.int .i64 x300000_2) ∧ w'.cell? ⟨gb299, 1, none⟩ = some (.slice Ao60 x300001_2.length co60) ∧ w'.cell? ⟨gb292, 0, none⟩ = some (.int .i64 a0_0) ∧ w'.cell? ⟨gb292, 1, none⟩ = some (.slice (some ad301) l0_1.length c0_1) ∧ w'.cell? (ad300.add (x7_2).toNat) = some (.int .i64 (rd l1 x7_2)) ∧ w'.cell? (ad301.add ((x7_2).toNat * 2)) = some (.int .i64 ((rd_T36 l0_1 x7_2).f0)) ∧ w'.cell? ⟨(ad301.add ((x7_2).toNat * 2)).block, (ad301.add ((x7_2).toNat * 2)).off + 1, none⟩ = some (.slice A301_1 ((rd_T36 l0_1 x7_2).f1).length c301_1)) (ds := []) #[false, false, false, false, false, false, false, false, false, false, false, false, false, false, false, false, false] (by kernel_rfl) rfl rfl ⟨(c2 BK299).1, (c2 BK299).2, (c2 BK292).1, (c2 BK292).2, ((HB.out.cell (World.block_lt_of_cell? w _ hw300_0)).trans hw300_0), ((HB.out.cell (World.block_lt_of_cell? w _ hw301_0)).trans hw301_0), ((HB.out.cell (World.block_lt_of_cell? w _ hw301_1)).trans hw301_1)⟩ (fun hHeld => ?_); refine with_tabW spec_CombineRows.tab7 spec_CombineRows.bits7 (fun HT_ HW_ => ?_)
        generalize wr.drew = w61 at HO_300001 BK292 BK293 BK299 HB HR301_1 hx300_0 hx301_0 hx301_1 hHeld ⊢
        refine pu 1 (some 33) (v := ?_) (a' := ?_) #[false, true, false, false, false, false, false, false, false, false, false, false, false, false, false, false, false] rfl rfl HT_ (fun _ _ _ h => h) (by rfl) ?_ ?_ ?_
        rotate_left
        ·intro w'
         go_simp
         with_reducible rfl
        rotate_left
        ·simp only [Act.put, z1, z2, z3, i64_w, i32_w]
         rfl
        refine pu 2 (some 34) (v := ?_) (a' := ?_) #[false, true, true, false, false, false, false, false, false, false, false, false, false, false, false, false, false] rfl rfl HT_ (fun _ _ _ h => h) (by rfl) ?_ ?_ ?_
        rotate_left
        ·intro w'
         go_simp
         with_reducible rfl
        rotate_left
        ·simp only [Act.put, z1, z2, z3, i64_w, i32_w]
         rfl
        refine pu 3 (some 35) (v := ?_) (a' := ?_) #[false, true, true, true, false, false, false, false, false, false, false, false, false, false, false, false, false] rfl rfl HT_ (fun _ _ _ h => h) (by rfl) ?_ ?_ ?_
        rotate_left
        ·intro w'
         go_simp
         with_reducible rfl
        rotate_left
        ·simp only [Act.put, z1, z2, z3, i64_w, i32_w]
         rfl
        refine pu 5 (some 37) (v := ?_) (a' := ?_) #[false, true, true, true, false, true, false, false, false, false, false, false, false, false, false, false, false] rfl rfl HT_ (fun _ _ _ h => h) (by rfl) ?_ ?_ ?_
        rotate_left
        ·intro w'
         go_simp
         with_reducible rfl
        rotate_left
        ·simp only [Act.put, z1, z2, z3, i64_w, i32_w]
         rfl
        refine pu 7 (some 39) (v := ?_) (a' := ?_) #[false, true, true, true, false, true, false, true, false, false, false, false, false, false, false, false, false] rfl rfl HT_ (fun _ _ _ h => h) (by rfl) ?_ ?_ ?_
        rotate_left
        ·intro w'
         go_simp
         with_reducible rfl
        rotate_left
        ·simp only [Act.put, z1, z2, z3, i64_w, i32_w]
         rfl
        refine tk 0 (some 32) (v := ?_) (a' := ?_) #[true, true, true, true, false, true, false, true, false, false, false, false, false, false, false, false, false] rfl rfl HT_ HW_ (fun _ _ _ h => h) (by rfl) ?_ hHeld ?_ ?_
        rotate_left
        ·rintro w' ⟨s0, s1, s2, s3, s4, s5, s6⟩
         go_simp
         with_reducible rfl
        rotate_left
        ·simp only [Act.put, z1, z2, z3, i64_w, i32_w]
         rfl
        refine tk 4 (some 36) (v := ?_) (a' := ?_) #[true, true, true, true, true, true, false, true, false, false, false, false, false, false, false, false, false] rfl rfl HT_ HW_ (fun _ _ _ h => h) (by rfl) ?_ hHeld ?_ ?_
        rotate_left
        ·rintro w' ⟨s0, s1, s2, s3, s4, s5, s6⟩
         go_simp
         with_reducible rfl
        rotate_left
        ·simp only [Act.put, z1, z2, z3, i64_w, i32_w]
         rfl
        refine tk 6 (some 38) (v := ?_) (a' := ?_) #[true, true, true, true, true, true, true, true, false, false, false, false, false, false, false, false, false] rfl rfl HT_ HW_ (fun _ _ _ h => h) (by rfl) ?_ hHeld ?_ ?_
        rotate_left
        ·rintro w' ⟨s0, s1, s2, s3, s4, s5, s6⟩
         go_simp
         with_reducible rfl
        rotate_left
        ·simp only [Act.put, z1, z2, z3, i64_w, i32_w]
         rfl
        refine pu 8 (some 40) (v := ?_) (a' := ?_) #[true, true, true, true, true, true, true, true, true, false, false, false, false, false, false, false, false] rfl rfl HT_ (fun _ _ _ h => h) (by rfl) ?_ ?_ ?_
        rotate_left
        ·intro w'
         go_simp
         with_reducible rfl
        rotate_left
        ·simp only [Act.put, z1, z2, z3, i64_w, i32_w]
         rfl
        refine tk 9 (some 41) (v := ?_) (a' := ?_) #[true, true, true, true, true, true, true, true, true, true, false, false, false, false, false, false, false] rfl rfl HT_ HW_ (fun _ _ _ h => h) (by rfl) ?_ hHeld ?_ ?_
        rotate_left
        ·rintro w' ⟨s0, s1, s2, s3, s4, s5, s6⟩
         go_simp
         with_reducible rfl
        rotate_left
        ·simp only [Act.put, z1, z2, z3, i64_w, i32_w]
         rfl
        refine join_ (σ := Value × Nat) 2 #[true, true, true, true, true, true, true, true, true, true, true, true, true, true, true, false, false] (fun s_ => [(42, .tuple #[.agg #[.int .i64 t302, s_.1], .bool false]), (8, .pointer (some ⟨s_.2, 0, none⟩)), (31, .tuple #[.agg #[.int .i64 t302, s_.1], .bool false]), (43, .agg #[.int .i64 t302, s_.1]), (44, .bool false)]) (fun s_ w' => (w'.cell? ⟨gb299, 0, none⟩ = some (.int .i64 x300000_2) ∧ w'.cell? ⟨gb299, 1, none⟩ = some (.slice Ao60 x300001_2.length co60) ∧ w'.cell? ⟨gb292, 0, none⟩ = some (.int .i64 a0_0) ∧ w'.cell? ⟨gb292, 1, none⟩ = some (.slice (some ad301) l0_1.length c0_1) ∧ w'.cell? (ad300.add (x7_2).toNat) = some (.int .i64 (rd l1 x7_2)) ∧ w'.cell? (ad301.add ((x7_2).toNat * 2)) = some (.int .i64 ((rd_T36 l0_1 x7_2).f0)) ∧ w'.cell? ⟨(ad301.add ((x7_2).toNat * 2)).block, (ad301.add ((x7_2).toNat * 2)).off + 1, none⟩ = some (.slice A301_1 ((rd_T36 l0_1 x7_2).f1).length c301_1)) ∧ (Kd.R (Kd.int .i64) 3 w' w.heap.size (fun k_ => some k_ ≠ (.slice Ao60 x300001_2.length co60 : Value).ownBlock) s_.1 t303) ∧ (Kd.R (Kd.int .i64) 3 w' w.heap.size (fun k_ => some k_ ≠ (s_.1 : Value).ownBlock) (.slice Ao60 x300001_2.length co60) x300001_2) ∧ (w'.heap[gb292]? = some (.cells #[.int .i64 a0_0, .slice (some ad301) l0_1.length c0_1] 33 (0, 0))) ∧ (w'.heap[gb293]? = some (.cells #[.int .i64 x294000_2, .slice none 0 0] 36 (0, 0))) ∧ (w'.heap[gb299]? = some (.cells #[.int .i64 x300000_2, .slice Ao60 x300001_2.length co60] 36 (0, 0))) ∧ (w'.heap[s_.2]? = some (.cells #[.int .i64 0, .slice none 0 0] 36 (0, 0))) ∧ (w.heap.size ≤ s_.2) ∧ (w.heap.size ≤ s_.2) ∧ (gb292 ≠ s_.2) ∧ (s_.2 ≠ gb292) ∧ (gb293 ≠ s_.2) ∧ (s_.2 ≠ gb293) ∧ (gb299 ≠ s_.2) ∧ (s_.2 ≠ gb299) ∧ (Below w.heap.size w w')) ?_ ?_
        rotate_left
        ·intro hCont
         refine two_ (i := 10) (j := 14) (Ni := some 42) (Nj := some 8) #[true, true, true, true, true, true, true, true, true, true, true, false, false, false, false, false, false] #[true, true, true, true, true, true, true, true, true, true, false, false, false, false, true, false, false] rfl rfl rfl rfl (two_of HT_.out (by kernel_rfl)) (by decide) (by decide) (fun K hK => ?_) (fun K hK => ?_)
         ·skip
          refine gs Try.func69 (by kernel_rfl) rfl #[.agg #[.int .i64 x300000_2, .slice Ao60 x300001_2.length co60], .int .i64 (rd l1 x7_2), .agg #[.int .i64 ((rd_T36 l0_1 x7_2).f0), .slice A301_1 ((rd_T36 l0_1 x7_2).f1).length c301_1]] (by rfl) rfl rfl ?_
          with_reducible refine (spec_AddScaled.calls k2 x300000_2 _ _ x300001_2 (rd l1 x7_2) ((rd_T36 l0_1 x7_2).f0) _ _ ((rd_T36 l0_1 x7_2).f1) t302 t303 false _ ?side1 ?side2 ?side3 ?side4 A30.out).mono ?_
          (case side1 => exact mc ((Kd.R_reads' HO_300001.out).2.2))
          (case side2 => exact (Kd.R_reads' HO_300001.out).2.1)
          (case side3 => exact mc ((Kd.C_below HR301_1.out HB.out)))
          (case side4 => exact HC301_1.out)
          rintro e w62 ⟨v304, rfl, ho0, hb⟩
          refine ⟨_, rfl, ?_⟩
          have HO305 := Aside0.mk (Kd.R_lower (Kd.R_new' ho0 (Kd.R_lt (mr HO_300001))) (below_size (ms HB)))
          replace HO_300001 := rl HO_300001 ho0 hb
          replace BK292 := bb BK292 hb
          replace BK293 := bb BK293 hb
          replace BK299 := bb BK299 hb
          replace HB := bs HB hb
          (try clear hb)
          (try clear hb2)
          (try clear hk)
          (try clear hi)
          (try clear ho0)
          refine hK.out _ _ ⟨(c2 BK299).1, (c2 BK299).2, (c2 BK292).1, (c2 BK292).2, ((HB.out.cell (World.block_lt_of_cell? w _ hw300_0)).trans hw300_0), ((HB.out.cell (World.block_lt_of_cell? w _ hw301_0)).trans hw301_0), ((HB.out.cell (World.block_lt_of_cell? w _ hw301_1)).trans hw301_1)⟩ (fun hHeld => ?_)
          clear hK K
          refine norm_ (a' := ?_) ?_ ?_
          rotate_left
          ·show Act.put _ (some 42) _ = _
           simp only [Act.put, z1, z2, z3, i64_w, i32_w]
           rfl
          refine pu 11 (some 31) (v := ?_) (a' := ?_) #[true, true, true, true, true, true, true, true, true, true, true, true, false, false, false, false, false] rfl rfl HT_ (fun _ _ _ h => h) (by rfl) ?_ ?_ ?_
          rotate_left
          ·intro w'
           go_simp
           with_reducible rfl
          rotate_left
          ·simp only [Act.put, z1, z2, z3, i64_w, i32_w]
           rfl
          refine pu 12 (some 43) (v := ?_) (a' := ?_) #[true, true, true, true, true, true, true, true, true, true, true, true, true, false, false, false, false] rfl rfl HT_ (fun _ _ _ h => h) (by rfl) ?_ ?_ ?_
          rotate_left
          ·intro w'
           go_simp
           with_reducible rfl
          rotate_left
          ·simp only [Act.put, z1, z2, z3, i64_w, i32_w]
           rfl
          refine pu 13 (some 44) (v := ?_) (a' := ?_) #[true, true, true, true, true, true, true, true, true, true, true, true, true, true, false, false, false] rfl rfl HT_ (fun _ _ _ h => h) (by rfl) ?_ ?_ ?_
          rotate_left
          ·intro w'
           go_simp
           with_reducible rfl
          rotate_left
          ·simp only [Act.put, z1, z2, z3, i64_w, i32_w]
           rfl
          refine one_ (i := 14) (N := some 8) #[true, true, true, true, true, true, true, true, true, true, true, true, true, true, true, false, false] rfl rfl (one_of HT_.out (by kernel_rfl)) (by decide) (fun K hK => ?_)
          refine box_step ?hg (N := 8) ?hd (cs := #[.int .i64 0, .slice none 0 0]) (t := 36) ?hr ?_; (case hd => rfl); (case hg => rfl); (case hr => first | (go_simp; done) | (go_simp; rfl))
          intro gb307 hg w63 hbox hb
          replace HO_300001 := rb HO_300001 hb
          replace HO305 := rb HO305 hb
          have BK307 := Aside0.mk (hbox)
          have GW307 := gw hg HB
          have GE307 := gw hg HB
          replace HB := bs HB hb
          have NB292_307 := nl hg BK292
          have NB307_292 := ng hg BK292
          replace BK292 := bb BK292 hb
          have NB293_307 := nl hg BK293
          have NB307_293 := ng hg BK293
          replace BK293 := bb BK293 hb
          have NB299_307 := nl hg BK299
          have NB307_299 := ng hg BK299
          replace BK299 := bb BK299 hb
          clear hb hbox hg
          refine hK.out _ _ ⟨(c2 BK299).1, (c2 BK299).2, (c2 BK292).1, (c2 BK292).2, ((HB.out.cell (World.block_lt_of_cell? w _ hw300_0)).trans hw300_0), ((HB.out.cell (World.block_lt_of_cell? w _ hw301_0)).trans hw301_0), ((HB.out.cell (World.block_lt_of_cell? w _ hw301_1)).trans hw301_1)⟩ (fun hHeld => ?_)
          clear hK K
          refine norm_ (a' := ?_) ?_ ?_
          rotate_left
          ·show Act.put _ (some 8) _ = _
           simp only [Act.put, z1, z2, z3, i64_w, i32_w]
           rfl
          exact norm_ (by simp only [putAll, Act.put, List.setIfInBounds_toArray, List.set_cons_zero, List.set_cons_succ]) (hCont (v304, gb307) _ ⟨hHeld, (by (with_reducible repeat (first | apply Kd.R_alloc | apply Kd.R_drewN | apply Kd.R_drew)); exact Kd.R_mono HO305.out (fun _ hk => hk.2)), (by (with_reducible repeat (first | apply Kd.R_alloc | apply Kd.R_drewN | apply Kd.R_drew)); exact Kd.R_mono HO_300001.out (fun _ hk => hk.2)), (mb BK292), (mb BK293), (mb BK299), (mb BK307), GW307.out, GE307.out, NB292_307.out, NB307_292.out, NB293_307.out, NB307_293.out, NB299_307.out, NB307_299.out, (ms HB)⟩)
         skip
         refine box_step ?hg (N := 8) ?hd (cs := #[.int .i64 0, .slice none 0 0]) (t := 36) ?hr ?_; (case hd => rfl); (case hg => rfl); (case hr => first | (go_simp; done) | (go_simp; rfl))
         intro gb307 hg w62 hbox hb
         replace HO_300001 := rb HO_300001 hb
         have BK307 := Aside0.mk (hbox)
         have GW307 := gw hg HB
         have GE307 := gw hg HB
         replace HB := bs HB hb
         have NB292_307 := nl hg BK292
         have NB307_292 := ng hg BK292
         replace BK292 := bb BK292 hb
         have NB293_307 := nl hg BK293
         have NB307_293 := ng hg BK293
         replace BK293 := bb BK293 hb
         have NB299_307 := nl hg BK299
         have NB307_299 := ng hg BK299
         replace BK299 := bb BK299 hb
         clear hb hbox hg
         refine hK.out _ _ ⟨(c2 BK299).1, (c2 BK299).2, (c2 BK292).1, (c2 BK292).2, ((HB.out.cell (World.block_lt_of_cell? w _ hw300_0)).trans hw300_0), ((HB.out.cell (World.block_lt_of_cell? w _ hw301_0)).trans hw301_0), ((HB.out.cell (World.block_lt_of_cell? w _ hw301_1)).trans hw301_1)⟩ (fun hHeld => ?_)
         clear hK K
         refine norm_ (a' := ?_) ?_ ?_
         rotate_left
         ·show Act.put _ (some 8) _ = _
          simp only [Act.put, z1, z2, z3, i64_w, i32_w]
          rfl
         refine one_ (i := 10) (N := some 42) #[true, true, true, true, true, true, true, true, true, true, true, false, false, false, true, false, false] rfl rfl (one_of HT_.out (by kernel_rfl)) (by decide) (fun K hK => ?_)
         refine gs Try.func69 (by kernel_rfl) rfl #[.agg #[.int .i64 x300000_2, .slice Ao60 x300001_2.length co60], .int .i64 (rd l1 x7_2), .agg #[.int .i64 ((rd_T36 l0_1 x7_2).f0), .slice A301_1 ((rd_T36 l0_1 x7_2).f1).length c301_1]] (by rfl) rfl rfl ?_
         with_reducible refine (spec_AddScaled.calls k2 x300000_2 _ _ x300001_2 (rd l1 x7_2) ((rd_T36 l0_1 x7_2).f0) _ _ ((rd_T36 l0_1 x7_2).f1) t302 t303 false _ ?side1 ?side2 ?side3 ?side4 A30.out).mono ?_
         (case side1 => exact mc ((Kd.R_reads' HO_300001.out).2.2))
         (case side2 => exact (Kd.R_reads' HO_300001.out).2.1)
         (case side3 => exact mc ((Kd.C_below HR301_1.out HB.out)))
         (case side4 => exact HC301_1.out)
         rintro e w63 ⟨v304, rfl, ho0, hb⟩
         refine ⟨_, rfl, ?_⟩
         have HO305 := Aside0.mk (Kd.R_lower (Kd.R_new' ho0 (Kd.R_lt (mr HO_300001))) (below_size (ms HB)))
         replace HO_300001 := rl HO_300001 ho0 hb
         replace BK292 := bb BK292 hb
         replace BK293 := bb BK293 hb
         replace BK299 := bb BK299 hb
         replace BK307 := bb BK307 hb
         replace HB := bs HB hb
         (try clear hb)
         (try clear hb2)
         (try clear hk)
         (try clear hi)
         (try clear ho0)
         refine hK.out _ _ ⟨(c2 BK299).1, (c2 BK299).2, (c2 BK292).1, (c2 BK292).2, ((HB.out.cell (World.block_lt_of_cell? w _ hw300_0)).trans hw300_0), ((HB.out.cell (World.block_lt_of_cell? w _ hw301_0)).trans hw301_0), ((HB.out.cell (World.block_lt_of_cell? w _ hw301_1)).trans hw301_1)⟩ (fun hHeld => ?_)
         clear hK K
         refine norm_ (a' := ?_) ?_ ?_
         rotate_left
         ·show Act.put _ (some 42) _ = _
          simp only [Act.put, z1, z2, z3, i64_w, i32_w]
          rfl
         refine pu 11 (some 31) (v := ?_) (a' := ?_) #[true, true, true, true, true, true, true, true, true, true, true, true, false, false, true, false, false] rfl rfl HT_ (fun _ _ _ h => h) (by rfl) ?_ ?_ ?_
         rotate_left
         ·intro w'
          go_simp
          with_reducible rfl
         rotate_left
         ·simp only [Act.put, z1, z2, z3, i64_w, i32_w]
          rfl
         refine pu 12 (some 43) (v := ?_) (a' := ?_) #[true, true, true, true, true, true, true, true, true, true, true, true, true, false, true, false, false] rfl rfl HT_ (fun _ _ _ h => h) (by rfl) ?_ ?_ ?_
         rotate_left
         ·intro w'
          go_simp
          with_reducible rfl
         rotate_left
         ·simp only [Act.put, z1, z2, z3, i64_w, i32_w]
          rfl
         refine pu 13 (some 44) (v := ?_) (a' := ?_) #[true, true, true, true, true, true, true, true, true, true, true, true, true, true, true, false, false] rfl rfl HT_ (fun _ _ _ h => h) (by rfl) ?_ ?_ ?_
         rotate_left
         ·intro w'
          go_simp
          with_reducible rfl
         rotate_left
         ·simp only [Act.put, z1, z2, z3, i64_w, i32_w]
          rfl
         exact norm_ (by simp only [putAll, Act.put, List.setIfInBounds_toArray, List.set_cons_zero, List.set_cons_succ]) (hCont (v304, gb307) _ ⟨hHeld, (by (with_reducible repeat (first | apply Kd.R_alloc | apply Kd.R_drewN | apply Kd.R_drew)); exact Kd.R_mono HO305.out (fun _ hk => hk.2)), (by (with_reducible repeat (first | apply Kd.R_alloc | apply Kd.R_drewN | apply Kd.R_drew)); exact Kd.R_mono HO_300001.out (fun _ hk => hk.2)), (mb BK292), (mb BK293), (mb BK299), (mb BK307), GW307.out, GE307.out, NB292_307.out, NB307_292.out, NB293_307.out, NB307_293.out, NB299_307.out, NB307_299.out, (ms HB)⟩)
        rintro ⟨v304, gb307⟩ w64 ⟨hS_, h0_, h1_, h2_, h3_, h4_, h5_, h6_, h7_, h8_, h9_, h10_, h11_, h12_, h13_, h14_⟩
        have n0_ : Aside0 (Kd.R (Kd.int .i64) 3 w64 w.heap.size (fun k_ => some k_ ≠ (.slice Ao60 x300001_2.length co60 : Value).ownBlock) v304 t303) := ⟨h0_⟩
        have n1_ : Aside0 (Kd.R (Kd.int .i64) 3 w64 w.heap.size (fun k_ => some k_ ≠ (v304 : Value).ownBlock) (.slice Ao60 x300001_2.length co60) x300001_2) := ⟨h1_⟩
        have n2_ : Aside0 (w64.heap[gb292]? = some (.cells #[.int .i64 a0_0, .slice (some ad301) l0_1.length c0_1] 33 (0, 0))) := ⟨h2_⟩
        have n3_ : Aside0 (w64.heap[gb293]? = some (.cells #[.int .i64 x294000_2, .slice none 0 0] 36 (0, 0))) := ⟨h3_⟩
        have n4_ : Aside0 (w64.heap[gb299]? = some (.cells #[.int .i64 x300000_2, .slice Ao60 x300001_2.length co60] 36 (0, 0))) := ⟨h4_⟩
        have n5_ : Aside0 (w64.heap[gb307]? = some (.cells #[.int .i64 0, .slice none 0 0] 36 (0, 0))) := ⟨h5_⟩
        have n6_ : Aside0 (w.heap.size ≤ gb307) := ⟨h6_⟩
        have n7_ : Aside0 (w.heap.size ≤ gb307) := ⟨h7_⟩
        have n8_ : Aside0 (gb292 ≠ gb307) := ⟨h8_⟩
        have n9_ : Aside0 (gb307 ≠ gb292) := ⟨h9_⟩
        have n10_ : Aside0 (gb293 ≠ gb307) := ⟨h10_⟩
        have n11_ : Aside0 (gb307 ≠ gb293) := ⟨h11_⟩
        have n12_ : Aside0 (gb299 ≠ gb307) := ⟨h12_⟩
        have n13_ : Aside0 (gb307 ≠ gb299) := ⟨h13_⟩
        have n14_ : Aside0 (Below w.heap.size w w64) := ⟨h14_⟩
        clear HO_300001
        clear BK292
        clear BK293
        clear BK299
        clear HB
        clear h0_ h1_ h2_ h3_ h4_ h5_ h6_ h7_ h8_ h9_ h10_ h11_ h12_ h13_ h14_
        have HO305 := n0_
        have HO_300001 := n1_
        have BK292 := n2_
        have BK293 := n3_
        have BK299 := n4_
        have BK307 := n5_
        have GW307 := n6_
        have GE307 := n7_
        have NB292_307 := n8_
        have NB307_292 := n9_
        have NB293_307 := n10_
        have NB307_293 := n11_
        have NB299_307 := n12_
        have NB307_299 := n13_
        have HB := n14_
        clear n0_ n1_ n2_ n3_ n4_ n5_ n6_ n7_ n8_ n9_ n10_ n11_ n12_ n13_ n14_
        have hHeld : w64.cell? ⟨gb299, 0, none⟩ = some (.int .i64 x300000_2) ∧ w64.cell? ⟨gb299, 1, none⟩ = some (.slice Ao60 x300001_2.length co60) ∧ w64.cell? ⟨gb292, 0, none⟩ = some (.int .i64 a0_0) ∧ w64.cell? ⟨gb292, 1, none⟩ = some (.slice (some ad301) l0_1.length c0_1) ∧ w64.cell? (ad300.add (x7_2).toNat) = some (.int .i64 (rd l1 x7_2)) ∧ w64.cell? (ad301.add ((x7_2).toNat * 2)) = some (.int .i64 ((rd_T36 l0_1 x7_2).f0)) ∧ w64.cell? ⟨(ad301.add ((x7_2).toNat * 2)).block, (ad301.add ((x7_2).toNat * 2)).off + 1, none⟩ = some (.slice A301_1 ((rd_T36 l0_1 x7_2).f1).length c301_1) := hS_
        obtain ⟨Ao66, co66, eo66⟩ := Kd.R_slice HO305.out
        (first | subst eo66 | (injection eo66 with f1_ f2_ f3_; have f4_ := f1_.symm; have f5_ := f3_.symm; clear f1_ f2_ f3_; subst f4_; subst f5_))
        refine norm_ (a' := ?_) ?_ ?_
        rotate_left
        ·simp only [putAll, Act.put, List.setIfInBounds_toArray, List.set_cons_zero, List.set_cons_succ]
         rfl
        refine one_ (i := 15) (N := none) #[true, true, true, true, true, true, true, true, true, true, true, true, true, true, true, true, false] rfl rfl (one_of HT_.out (by kernel_rfl)) (by decide) (fun K hK => ?_)
        have hs65 : w64.cell? ⟨gb307, 0, none⟩ = some (.int .i64 0) := (blk_cell BK307.out 0).trans rfl
        have hfs65 := blk_frozen BK307.out 0
        have hns65_0 := NB292_307.out
        have hns65_1 := NB293_307.out
        have hns65_2 := NB299_307.out
        have hms65_0 := NB307_292.out
        have hms65_1 := NB307_293.out
        have hms65_2 := NB307_299.out
        have hs67 : w64.cell? ⟨gb307, 1, none⟩ = some (.slice none 0 0) := (blk_cell BK307.out 1).trans rfl
        have hfs67 := blk_frozen BK307.out 1
        have hns67_0 := NB292_307.out
        have hns67_1 := NB293_307.out
        have hns67_2 := NB299_307.out
        have hms67_0 := NB307_292.out
        have hms67_1 := NB307_293.out
        have hms67_2 := NB307_299.out
        refine skip_ (w1 := ?_) (by rfl) rfl ?_ ?_
        rotate_left
        ·go_simp
         rfl
        refine hK.out _ _ ⟨((cell_far (p := ⟨gb307, _, none⟩) NB299_307.out _).trans (((cell_far (p := ⟨gb307, _, none⟩) NB299_307.out _).trans (hHeld.1)))), ((cell_far (p := ⟨gb307, _, none⟩) NB299_307.out _).trans (((cell_far (p := ⟨gb307, _, none⟩) NB299_307.out _).trans (hHeld.2.1)))), ((cell_far (p := ⟨gb307, _, none⟩) NB292_307.out _).trans (((cell_far (p := ⟨gb307, _, none⟩) NB292_307.out _).trans (hHeld.2.2.1)))), ((cell_far (p := ⟨gb307, _, none⟩) NB292_307.out _).trans (((cell_far (p := ⟨gb307, _, none⟩) NB292_307.out _).trans (hHeld.2.2.2.1)))), ((cell_far (p := ⟨gb307, _, none⟩) (by first | exact Nat.ne_of_lt (Nat.lt_of_lt_of_le (by have := World.block_lt_of_cell? _ _ hw300_0; first | rwa [add_block] at this | exact this) GW307.out) | (rw [add_block]; exact Nat.ne_of_lt (Nat.lt_of_lt_of_le (by have := World.block_lt_of_cell? _ _ hw300_0; first | rwa [add_block] at this | exact this) GW307.out)) | (show (Addr.add _ _).block ≠ _; rw [add_block]; exact Nat.ne_of_lt (Nat.lt_of_lt_of_le (by have := World.block_lt_of_cell? _ _ hw300_0; first | rwa [add_block] at this | exact this) GW307.out)) | (dsimp only; exact Nat.ne_of_lt (Nat.lt_of_lt_of_le (by have := World.block_lt_of_cell? _ _ hw300_0; first | rwa [add_block] at this | exact this) GW307.out))) _).trans (((cell_far (p := ⟨gb307, _, none⟩) (by first | exact Nat.ne_of_lt (Nat.lt_of_lt_of_le (by have := World.block_lt_of_cell? _ _ hw300_0; first | rwa [add_block] at this | exact this) GW307.out) | (rw [add_block]; exact Nat.ne_of_lt (Nat.lt_of_lt_of_le (by have := World.block_lt_of_cell? _ _ hw300_0; first | rwa [add_block] at this | exact this) GW307.out)) | (show (Addr.add _ _).block ≠ _; rw [add_block]; exact Nat.ne_of_lt (Nat.lt_of_lt_of_le (by have := World.block_lt_of_cell? _ _ hw300_0; first | rwa [add_block] at this | exact this) GW307.out)) | (dsimp only; exact Nat.ne_of_lt (Nat.lt_of_lt_of_le (by have := World.block_lt_of_cell? _ _ hw300_0; first | rwa [add_block] at this | exact this) GW307.out))) _).trans (hHeld.2.2.2.2.1)))), ((cell_far (p := ⟨gb307, _, none⟩) (by first | exact Nat.ne_of_lt (Nat.lt_of_lt_of_le (by have := World.block_lt_of_cell? _ _ hw301_0; first | rwa [add_block] at this | exact this) GW307.out) | (rw [add_block]; exact Nat.ne_of_lt (Nat.lt_of_lt_of_le (by have := World.block_lt_of_cell? _ _ hw301_0; first | rwa [add_block] at this | exact this) GW307.out)) | (show (Addr.add _ _).block ≠ _; rw [add_block]; exact Nat.ne_of_lt (Nat.lt_of_lt_of_le (by have := World.block_lt_of_cell? _ _ hw301_0; first | rwa [add_block] at this | exact this) GW307.out)) | (dsimp only; exact Nat.ne_of_lt (Nat.lt_of_lt_of_le (by have := World.block_lt_of_cell? _ _ hw301_0; first | rwa [add_block] at this | exact this) GW307.out))) _).trans (((cell_far (p := ⟨gb307, _, none⟩) (by first | exact Nat.ne_of_lt (Nat.lt_of_lt_of_le (by have := World.block_lt_of_cell? _ _ hw301_0; first | rwa [add_block] at this | exact this) GW307.out) | (rw [add_block]; exact Nat.ne_of_lt (Nat.lt_of_lt_of_le (by have := World.block_lt_of_cell? _ _ hw301_0; first | rwa [add_block] at this | exact this) GW307.out)) | (show (Addr.add _ _).block ≠ _; rw [add_block]; exact Nat.ne_of_lt (Nat.lt_of_lt_of_le (by have := World.block_lt_of_cell? _ _ hw301_0; first | rwa [add_block] at this | exact this) GW307.out)) | (dsimp only; exact Nat.ne_of_lt (Nat.lt_of_lt_of_le (by have := World.block_lt_of_cell? _ _ hw301_0; first | rwa [add_block] at this | exact this) GW307.out))) _).trans (hHeld.2.2.2.2.2.1)))), ((cell_far (p := ⟨gb307, _, none⟩) (by first | exact Nat.ne_of_lt (Nat.lt_of_lt_of_le (by have := World.block_lt_of_cell? _ _ hw301_1; first | rwa [add_block] at this | exact this) GW307.out) | (rw [add_block]; exact Nat.ne_of_lt (Nat.lt_of_lt_of_le (by have := World.block_lt_of_cell? _ _ hw301_1; first | rwa [add_block] at this | exact this) GW307.out)) | (show (Addr.add _ _).block ≠ _; rw [add_block]; exact Nat.ne_of_lt (Nat.lt_of_lt_of_le (by have := World.block_lt_of_cell? _ _ hw301_1; first | rwa [add_block] at this | exact this) GW307.out)) | (dsimp only; exact Nat.ne_of_lt (Nat.lt_of_lt_of_le (by have := World.block_lt_of_cell? _ _ hw301_1; first | rwa [add_block] at this | exact this) GW307.out))) _).trans (((cell_far (p := ⟨gb307, _, none⟩) (by first | exact Nat.ne_of_lt (Nat.lt_of_lt_of_le (by have := World.block_lt_of_cell? _ _ hw301_1; first | rwa [add_block] at this | exact this) GW307.out) | (rw [add_block]; exact Nat.ne_of_lt (Nat.lt_of_lt_of_le (by have := World.block_lt_of_cell? _ _ hw301_1; first | rwa [add_block] at this | exact this) GW307.out)) | (show (Addr.add _ _).block ≠ _; rw [add_block]; exact Nat.ne_of_lt (Nat.lt_of_lt_of_le (by have := World.block_lt_of_cell? _ _ hw301_1; first | rwa [add_block] at this | exact this) GW307.out)) | (dsimp only; exact Nat.ne_of_lt (Nat.lt_of_lt_of_le (by have := World.block_lt_of_cell? _ _ hw301_1; first | rwa [add_block] at this | exact this) GW307.out))) _).trans (hHeld.2.2.2.2.2.2))))⟩ (fun hHeld => ?_)
        clear hK K
        refine pu 16 (some 9) (v := ?_) (a' := ?_) #[true, true, true, true, true, true, true, true, true, true, true, true, true, true, true, true, true] rfl rfl HT_ (fun _ _ _ h => h) (by rfl) ?_ ?_ ?_
        rotate_left
        ·intro w'
         go_simp
         with_reducible rfl
        rotate_left
        ·simp only [Act.put, z1, z2, z3, i64_w, i32_w]
         rfl
        refine done_ (done_of HT_.out (by kernel_rfl)) ?_
        have := NB293_292.out
        have := NB292_293.out
        have := NB293_299.out
        have := NB299_293.out
        have := NB293_307.out
        have := NB307_293.out
        obtain ⟨_, _, _, _⟩ := cFour BK293
        try go_wp2
        refine bodyPost_ret (results_ct rfl _ _ gb293 36 #[.int .i64 0, .slice none 0 0] (0, 0) _ rfl (by (with_reducible repeat (first | refine blk_drewN ?_ _ | refine blk_drew ?_ | refine blk_alloc ?_ _)); refine blk_put (cs := #[.int .i64 0, .slice none 0 0]) ?_ 1 _ rfl; (with_reducible repeat (first | refine blk_drewN ?_ _ | refine blk_drew ?_ | refine blk_alloc ?_ _)); refine blk_put (cs := #[.int .i64 x294000_2, .slice none 0 0]) ?_ 0 _ rfl; (with_reducible repeat (first | refine blk_drewN ?_ _ | refine blk_drew ?_ | refine blk_alloc ?_ _)); refine blk_far ?_ NB293_307.out _; (with_reducible repeat (first | refine blk_drewN ?_ _ | refine blk_drew ?_ | refine blk_alloc ?_ _)); refine blk_far ?_ NB293_307.out _; (with_reducible repeat (first | refine blk_drewN ?_ _ | refine blk_drew ?_ | refine blk_alloc ?_ _)); exact BK293.out) Try.underlying36 rfl (by kernel_rfl)) rfl ?_
        exact ⟨_, by first | rfl | (simp [errW_none, errW_some] <;> rfl) | (simp [*, errW_none, errW_some] <;> rfl), by first | exact Kd.R_nil _ _ _ _ _ | exact Kd.N_nil _ _ _ _ _ | exact Kd.V_nil _ _ _ _ _ | exact Kd.Q_nil _ _ _ _ _ | exact Kd.S_nil _ _ _ _ _, ms HB⟩
       rw [if_neg c29] at H
       exact absurd H (by simp)
      rw [if_neg c28] at H
      exact absurd H (by simp)
     rw [if_neg c27] at H
     have c27b0 : decide (x7_2 < (l1.length : Int)) = false := decide_eq_false c27
     clear c27
     simp only [Option.some.injEq, Prod.mk.injEq] at H
     obtain ⟨rfl, rfl, rfl⟩ := H
     have := NB299_292.out
     have := NB292_299.out
     have := NB299_293.out
     have := NB293_299.out
     obtain ⟨_, _, _, _⟩ := cFour BK299
     have := NB293_292.out
     have := NB292_293.out
     obtain ⟨_, _, _, _⟩ := cFour BK293
     obtain ⟨Ao77, co77, eo77⟩ := Kd.R_slice HO_300001.out
     subst eo77
     go_wp2
     refine bodyPost_ret (results_ct rfl _ _ gb293 36 #[.int .i64 x300000_2, .slice Ao77 x300001_2.length co77] (0, 0) _ rfl (mq BK293) Try.underlying36 rfl (by kernel_rfl)) rfl ?_
     exact ⟨_, by first | rfl | (simp [errW_none, errW_some] <;> rfl) | (simp [*, errW_none, errW_some] <;> rfl), by (with_reducible repeat (first | apply Kd.R_alloc | apply Kd.R_drewN | apply Kd.R_drew)); exact Kd.R_mono (Kd.R_far (p := ⟨gb293, 1, none⟩) (Kd.R_far (p := ⟨gb293, 0, none⟩) (Kd.R_types HO_300001.out BK293.out (by decide)) (fun _ hk => hk.2) (.int .i64 x300000_2)) (fun _ hk => hk.2) (.slice Ao77 x300001_2.length co77)) (fun _ hk => trivial), ms HB⟩

end Go.Proofs.Ytelgmnlkkhikfaa.QFnFarkas
