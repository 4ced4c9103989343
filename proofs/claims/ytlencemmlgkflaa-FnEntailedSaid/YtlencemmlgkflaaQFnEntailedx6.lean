-- Made by a program of this claim's own (wip/print): not the kit's print as it stands.
import Derived.Test.YtlencemmlgkflaaUFnEntailedTri
import Derived.Test.YtlencemmlgkflaaQFnEntailedx0
import Derived.Test.YtlencemmlgkflaaQFnEntailedx1
import Derived.Test.YtlencemmlgkflaaQFnEntailedx2
import Derived.Test.YtlencemmlgkflaaQFnEntailedx4
import Derived.Test.YtlencemmlgkflaaQFnEntailedx5
namespace Go.Proofs.Ytlencemmlgkflaa.QFnEntailed
open Go.RowKit Go.Proofs.YtlencemmlgkflaaV.PrintWords Go.Proofs.YtlencemmlgkflaaV.PrintLast Go.Proofs.YtlencemmlgkflaaV.PrintMore
attribute [local go_sem] max2_int min2_int max_two min_two max_three min_three max_four min_four   -- for this text's walks alone
set_option linter.unusedVariables false
set_option linter.unusedSimpArgs false

/-! ### impl_CheckFarkas: function 78 -/
mutual
def impl_CheckFarkas.j0 : Nat → Bool → Int → List (S29) → Int → List Int → Int → List Int → Option (Bool)
 | 0, _, _, _, _, _, _, _ => none
 | k + 1, x28, x198000, x198001, x199000, x199001, x200000, x200001 => if x28 = true then (some false) else ((impl_CombineRows.f k x198000 x198001 x200001).bind fun bt203 => ((impl_plus.f k x199000 x199001 1).bind fun bt209 => (if bt203.2.2 = true then (impl_CheckFarkas.j1 k (!bt209.2.2) x200000 x200001 bt203.1 bt203.2.1 bt209.1 bt209.2.1) else (impl_CheckFarkas.j1 k true x200000 x200001 bt203.1 bt203.2.1 bt209.1 bt209.2.1))))
def impl_CheckFarkas.j1 : Nat → Bool → Int → List Int → Int → List Int → Int → List Int → Option (Bool)
 | 0, _, _, _, _, _, _, _ => none
 | k + 1, x46, x200000, x200001, x209000, x209001, x215000, x215001 => if x46 = true then (some false) else ((impl_AddScaled.f k x209000 x209001 (wrap64 (-x200000)) x215000 x215001).bind fun bt215 => (if bt215.2.2 = true then ((impl_IsConstant.f k bt215.1 bt215.2.1).bind fun t221 => (if t221 = true then (some (decide (bt215.1 < 0))) else (some false))) else (some false)))
end
def impl_CheckFarkas.f (k : Nat) (a0_0 : Int) (l0_1 : List (S29)) (a1_0 : Int) (l1_1 : List Int) (a2_0 : Int) (l2_1 : List Int) : Option (Bool) := (impl_IsValidSystem.f k a0_0 l0_1).bind fun t200 => (if t200 = true then ((impl_IsValidLin.f k a1_0 l1_1 a0_0).bind fun t201 => (if t201 = true then ((impl_within.f a2_0 0 1000000000).bind fun t202 => (impl_CheckFarkas.j0 k (!t202) a0_0 l0_1 a1_0 l1_1 a2_0 l2_1)) else (impl_CheckFarkas.j0 k true a0_0 l0_1 a1_0 l1_1 a2_0 l2_1))) else (impl_CheckFarkas.j0 k true a0_0 l0_1 a1_0 l1_1 a2_0 l2_1))
theorem impl_CheckFarkas.mono_l : ∀ k, (∀ y0 y1 y2 y3 y4 y5 y6, LeO (impl_CheckFarkas.j0 k y0 y1 y2 y3 y4 y5 y6) (impl_CheckFarkas.j0 (k + 1) y0 y1 y2 y3 y4 y5 y6)) ∧ (∀ y0 y1 y2 y3 y4 y5 y6, LeO (impl_CheckFarkas.j1 k y0 y1 y2 y3 y4 y5 y6) (impl_CheckFarkas.j1 (k + 1) y0 y1 y2 y3 y4 y5 y6))
 | 0 => ⟨fun _ _ _ _ _ _ _ r h => by simp [impl_CheckFarkas.j0] at h, fun _ _ _ _ _ _ _ r h => by simp [impl_CheckFarkas.j1] at h⟩
 | k + 1 => by
  obtain ⟨ih0, ih1⟩ := impl_CheckFarkas.mono_l k
  refine ⟨?_, ?_⟩
  ·intro y0 y1 y2 y3 y4 y5 y6
   unfold impl_CheckFarkas.j0
   repeat' with_reducible first
   | exact ih0 _ _ _ _ _ _ _
   | exact ih1 _ _ _ _ _ _ _
   | exact impl_AddScaled.mono _ _ _ _ _ _
   | exact impl_CombineRows.mono _ _ _ _
   | exact impl_IsConstant.mono _ _ _
   | exact impl_IsValidLin.mono _ _ _ _
   | exact impl_IsValidSystem.mono _ _ _
   | exact impl_plus.mono _ _ _ _
   | exact LeO.refl _
   | exact LeO.none _
   | refine LeO.ite ?_ ?_
   | refine LeO.bind ?_ (fun _ => ?_)
  intro y0 y1 y2 y3 y4 y5 y6
  unfold impl_CheckFarkas.j1
  repeat' with_reducible first
  | exact ih0 _ _ _ _ _ _ _
  | exact ih1 _ _ _ _ _ _ _
  | exact impl_AddScaled.mono _ _ _ _ _ _
  | exact impl_CombineRows.mono _ _ _ _
  | exact impl_IsConstant.mono _ _ _
  | exact impl_IsValidLin.mono _ _ _ _
  | exact impl_IsValidSystem.mono _ _ _
  | exact impl_plus.mono _ _ _ _
  | exact LeO.refl _
  | exact LeO.none _
  | refine LeO.ite ?_ ?_
  | refine LeO.bind ?_ (fun _ => ?_)
theorem impl_CheckFarkas.mono : ∀ a0 a1 a2 a3 a4 a5 k, LeO (impl_CheckFarkas.f k a0 a1 a2 a3 a4 a5) (impl_CheckFarkas.f (k + 1) a0 a1 a2 a3 a4 a5) := by
 intro a0 a1 a2 a3 a4 a5 k
 obtain ⟨ih0, ih1⟩ := impl_CheckFarkas.mono_l k
 unfold impl_CheckFarkas.f
 repeat' with_reducible first
 | exact ih0 _ _ _ _ _ _ _
 | exact ih1 _ _ _ _ _ _ _
 | exact impl_AddScaled.mono _ _ _ _ _ _
 | exact impl_CombineRows.mono _ _ _ _
 | exact impl_IsConstant.mono _ _ _
 | exact impl_IsValidLin.mono _ _ _ _
 | exact impl_IsValidSystem.mono _ _ _
 | exact impl_plus.mono _ _ _ _
 | exact LeO.refl _
 | exact LeO.none _
 | refine LeO.ite ?_ ?_
 | refine LeO.bind ?_ (fun _ => ?_)
set_option maxHeartbeats 8000000 in
set_option maxRecDepth 100000 in
theorem impl_CheckFarkas.calls (k : Nat) (a0_0 : Int) (A0_1 : Option Addr) (c0_1 : Nat) (l0_1 : List (S29)) (a1_0 : Int) (A1_1 : Option Addr) (c1_1 : Nat) (l1_1 : List Int) (a2_0 : Int) (A2_1 : Option Addr) (c2_1 : Nat) (l2_1 : List Int) (r : Bool) (w : World) (hr0_1 : Kd.C k29 w A0_1 l0_1.length l0_1) (hc0_1 : l0_1.length ≤ c0_1) (hr1_1 : Kd.C (Kd.int .i64) w A1_1 l1_1.length l1_1) (hc1_1 : l1_1.length ≤ c1_1) (hr2_1 : Kd.C (Kd.int .i64) w A2_1 l2_1.length l2_1) (hc2_1 : l2_1.length ≤ c2_1) (h : impl_CheckFarkas.f k a0_0 l0_1 a1_0 l1_1 a2_0 l2_1 = some r) :
  Calls Try.prog 78 #[.agg #[.int .i64 a0_0, .slice A0_1 l0_1.length c0_1], .agg #[.int .i64 a1_0, .slice A1_1 l1_1.length c1_1], .agg #[.int .i64 a2_0, .slice A2_1 l2_1.length c2_1]] w fun e w' => e = .returned (.bool r) ∧ Below w.heap.size w w' := by
 have hu26 := Try.underlying26
 have hu29 := Try.underlying29
 have hu33 := Try.underlying33
 have HR0_1 := Aside0.mk hr0_1
 have HC0_1 := Aside0.mk hc0_1
 clear hr0_1 hc0_1
 have HR1_1 := Aside0.mk hr1_1
 have HC1_1 := Aside0.mk hc1_1
 clear hr1_1 hc1_1
 have HR2_1 := Aside0.mk hr2_1
 have HC2_1 := Aside0.mk hc2_1
 clear hr2_1 hc2_1
 have HB := Aside0.mk (Below.refl w.heap.size w)
 have H : ((impl_IsValidSystem.f k a0_0 l0_1).bind fun t200 => (if t200 = true then ((impl_IsValidLin.f k a1_0 l1_1 a0_0).bind fun t201 => (if t201 = true then ((impl_within.f a2_0 0 1000000000).bind fun t202 => (impl_CheckFarkas.j0 k (!t202) a0_0 l0_1 a1_0 l1_1 a2_0 l2_1)) else (impl_CheckFarkas.j0 k true a0_0 l0_1 a1_0 l1_1 a2_0 l2_1))) else (impl_CheckFarkas.j0 k true a0_0 l0_1 a1_0 l1_1 a2_0 l2_1))) = some r := h
 clear h
 have HC4 := Aside0.mk H; clear H
 go_enter Try.func78, Try.ntmps78
 go_upto_region 1 with (first | ((with_reducible refine gate_dst (N := 3) rfl ?_); refine box_event ?hg (N := 3) ?hd (cs := #[.int .i64 a0_0, .slice A0_1 l0_1.length c0_1]) (t := 26) ?hr ?_; (case hd => rfl); (case hg => rfl); (case hr => first | (go_simp; done) | (go_simp; rfl)); intro gb197 hg w5 hbox hb; have BK197 := Aside0.mk (hbox); have GW197 := gw hg HB; have GE197 := gw hg HB; replace HB := bs HB hb; clear hb hbox hg) | ((with_reducible refine gate_dst (N := 4) rfl ?_); refine box_event ?hg (N := 4) ?hd (cs := #[.int .i64 a1_0, .slice A1_1 l1_1.length c1_1]) (t := 29) ?hr ?_; (case hd => rfl); (case hg => rfl); (case hr => first | (go_simp; done) | (go_simp; rfl)); intro gb198 hg w6 hbox hb; have BK198 := Aside0.mk (hbox); have GW198 := gw hg HB; have GE198 := gw hg HB; replace HB := bs HB hb; have NB197_198 := nl hg BK197; have NB198_197 := ng hg BK197; replace BK197 := bb BK197 hb; clear hb hbox hg) | ((with_reducible refine gate_dst (N := 5) rfl ?_); refine box_event ?hg (N := 5) ?hd (cs := #[.int .i64 a2_0, .slice A2_1 l2_1.length c2_1]) (t := 33) ?hr ?_; (case hd => rfl); (case hg => rfl); (case hr => first | (go_simp; done) | (go_simp; rfl)); intro gb199 hg w7 hbox hb; have BK199 := Aside0.mk (hbox); have GW199 := gw hg HB; have GE199 := gw hg HB; replace HB := bs HB hb; have NB197_199 := nl hg BK197; have NB199_197 := ng hg BK197; replace BK197 := bb BK197 hb; have NB198_199 := nl hg BK198; have NB199_198 := ng hg BK198; replace BK198 := bb BK198 hb; clear hb hbox hg))
 (try simp only [Act.put, List.setIfInBounds_toArray, List.set_cons_zero, List.set_cons_succ])
 go_cut [28] (fun v28 wc => ∃ (kq : Nat) (x28_3 : Bool), v28 = .bool x28_3 ∧ Aside0 (impl_CheckFarkas.j0 kq x28_3 a0_0 l0_1 a1_0 l1_1 a2_0 l2_1 = some r) ∧ Aside0 (kq ≤ k) ∧ Aside0 (wc.heap[gb197]? = some (.cells #[.int .i64 a0_0, (.slice A0_1 l0_1.length c0_1)] 26 (0, 0))) ∧ Aside0 (wc.heap[gb198]? = some (.cells #[.int .i64 a1_0, (.slice A1_1 l1_1.length c1_1)] 29 (0, 0))) ∧ Aside0 (wc.heap[gb199]? = some (.cells #[.int .i64 a2_0, (.slice A2_1 l2_1.length c2_1)] 33 (0, 0))) ∧ Aside0 (Below w.heap.size w wc))
 case first =>
  have H := HC4.out
  clear HC4
  obtain ⟨t200, A80, H⟩ := Option.bind_eq_some_iff.mp H
  try dsimp only at H
  have A8 := Aside0.mk A80; clear A80
  by_cases c9 : t200 = true
  ·subst c9
   rw [if_pos rfl] at H
   obtain ⟨t201, A100, H⟩ := Option.bind_eq_some_iff.mp H
   try dsimp only at H
   have A10 := Aside0.mk A100; clear A100
   by_cases c11 : t201 = true
   ·subst c11
    rw [if_pos rfl] at H
    obtain ⟨t202, A120, H⟩ := Option.bind_eq_some_iff.mp H
    try dsimp only at H
    have A12 := Aside0.mk A120; clear A120
    have H' := Aside0.mk H
    clear H
    have := NB197_198.out
    have := NB198_197.out
    have := NB197_199.out
    have := NB199_197.out
    obtain ⟨hcz15_0, hcz15_1, hfz15_0, hfz15_1⟩ := cFour BK197
    go_wp2_with (first | ((with_reducible refine gate_callee (f := 73) rfl ?_); refine gl (some 14) rfl rfl Try.func73 (by kernel_rfl) rfl #[.agg #[.int .i64 a0_0, .slice A0_1 l0_1.length c0_1]] rfl ?_; (with_reducible refine (impl_IsValidSystem.calls k a0_0 _ _ l0_1 true _ ?side1 ?side2 A8.out).mono ?_); (case side1 => exact mc ((Kd.C_below HR0_1.out HB.out))); (case side2 => exact HC0_1.out); rintro e w16 ⟨rfl, hb⟩; refine ⟨_, rfl, ?_⟩; replace BK197 := bb BK197 hb; replace BK198 := bb BK198 hb; replace BK199 := bb BK199 hb; replace HB := bs HB hb; (try clear hb); have := NB198_199.out; have := NB199_198.out; obtain ⟨hcz18_0, hcz18_1, hfz18_0, hfz18_1⟩ := cFour BK198; obtain ⟨hcz19_0, hcz19_1, hfz19_0, hfz19_1⟩ := cFour BK197) | (go_at_call 74; (with_reducible refine (impl_IsValidLin.calls k a1_0 _ _ l1_1 a0_0 true _ ?side1 ?side2 A10.out).mono ?_); (case side1 => exact mc ((Kd.C_below HR1_1.out HB.out))); (case side2 => exact HC1_1.out); rintro e w20 ⟨rfl, hb⟩; replace BK197 := bb BK197 hb; replace BK198 := bb BK198 hb; replace BK199 := bb BK199 hb; replace HB := bs HB hb; (try clear hb); obtain ⟨hcz21_0, hcz21_1, hfz21_0, hfz21_1⟩ := cFour BK199) | (go_at_call 99; (with_reducible refine (impl_within.calls a2_0 0 1000000000 t202 _ A12.out).mono ?_); rintro e w' ⟨rfl, ⟨nd, rfl⟩⟩))
    go_meet
    case rel => exact ⟨_, (!t202), (by first | rfl | (simp; done) | (simp [*]; done)), H', ⟨by first | omega | exact Nat.le_refl _⟩, ⟨mb BK197⟩, ⟨mb BK198⟩, ⟨mb BK199⟩, ⟨ms HB⟩⟩
   replace c11 := Bool.eq_false_iff.mpr c11
   subst c11
   rw [if_neg (show ¬ (false = true) by decide)] at H
   have H' := Aside0.mk H
   clear H
   have := NB197_198.out
   have := NB198_197.out
   have := NB197_199.out
   have := NB199_197.out
   obtain ⟨hcz24_0, hcz24_1, hfz24_0, hfz24_1⟩ := cFour BK197
   go_wp2_with (first | ((with_reducible refine gate_callee (f := 73) rfl ?_); refine gl (some 14) rfl rfl Try.func73 (by kernel_rfl) rfl #[.agg #[.int .i64 a0_0, .slice A0_1 l0_1.length c0_1]] rfl ?_; (with_reducible refine (impl_IsValidSystem.calls k a0_0 _ _ l0_1 true _ ?side1 ?side2 A8.out).mono ?_); (case side1 => exact mc ((Kd.C_below HR0_1.out HB.out))); (case side2 => exact HC0_1.out); rintro e w25 ⟨rfl, hb⟩; refine ⟨_, rfl, ?_⟩; replace BK197 := bb BK197 hb; replace BK198 := bb BK198 hb; replace BK199 := bb BK199 hb; replace HB := bs HB hb; (try clear hb); have := NB198_199.out; have := NB199_198.out; obtain ⟨hcz27_0, hcz27_1, hfz27_0, hfz27_1⟩ := cFour BK198; obtain ⟨hcz28_0, hcz28_1, hfz28_0, hfz28_1⟩ := cFour BK197) | (go_at_call 74; (with_reducible refine (impl_IsValidLin.calls k a1_0 _ _ l1_1 a0_0 false _ ?side1 ?side2 A10.out).mono ?_); (case side1 => exact mc ((Kd.C_below HR1_1.out HB.out))); (case side2 => exact HC1_1.out); rintro e w29 ⟨rfl, hb⟩; replace BK197 := bb BK197 hb; replace BK198 := bb BK198 hb; replace BK199 := bb BK199 hb; replace HB := bs HB hb; (try clear hb)))
   go_meet
   case rel => exact ⟨_, (true), (by first | rfl | (simp; done) | (simp [*]; done)), H', ⟨by first | omega | exact Nat.le_refl _⟩, ⟨mb BK197⟩, ⟨mb BK198⟩, ⟨mb BK199⟩, ⟨ms HB⟩⟩
  replace c9 := Bool.eq_false_iff.mpr c9
  subst c9
  rw [if_neg (show ¬ (false = true) by decide)] at H
  have H' := Aside0.mk H
  clear H
  have := NB197_198.out
  have := NB198_197.out
  have := NB197_199.out
  have := NB199_197.out
  obtain ⟨hcz32_0, hcz32_1, hfz32_0, hfz32_1⟩ := cFour BK197
  go_wp2_with (((with_reducible refine gate_callee (f := 73) rfl ?_); refine gl (some 14) rfl rfl Try.func73 (by kernel_rfl) rfl #[.agg #[.int .i64 a0_0, .slice A0_1 l0_1.length c0_1]] rfl ?_; (with_reducible refine (impl_IsValidSystem.calls k a0_0 _ _ l0_1 false _ ?side1 ?side2 A8.out).mono ?_); (case side1 => exact mc ((Kd.C_below HR0_1.out HB.out))); (case side2 => exact HC0_1.out); rintro e w33 ⟨rfl, hb⟩; refine ⟨_, rfl, ?_⟩; replace BK197 := bb BK197 hb; replace BK198 := bb BK198 hb; replace BK199 := bb BK199 hb; replace HB := bs HB hb; (try clear hb)))
  go_meet
  case rel => exact ⟨_, (true), (by first | rfl | (simp; done) | (simp [*]; done)), H', ⟨by first | omega | exact Nat.le_refl _⟩, ⟨mb BK197⟩, ⟨mb BK198⟩, ⟨mb BK199⟩, ⟨ms HB⟩⟩
 case rest =>
  clear HC4
  try clear c1
  try clear c2
  try clear p2
  try clear c3
  try clear c7
  try clear c9
  try clear c11
  try clear c13
  try clear c14
  try clear c17
  try clear c22
  try clear c23
  try clear c26
  try clear c30
  try clear c31
  try clear hcz15_0
  try clear hcz15_1
  try clear hcz18_0
  try clear hcz18_1
  try clear hcz19_0
  try clear hcz19_1
  try clear hcz21_0
  try clear hcz21_1
  try clear hcz24_0
  try clear hcz24_1
  try clear hcz27_0
  try clear hcz27_1
  try clear hcz28_0
  try clear hcz28_1
  try clear hcz32_0
  try clear hcz32_1
  try clear hfz15_0
  try clear hfz15_1
  try clear hfz18_0
  try clear hfz18_1
  try clear hfz19_0
  try clear hfz19_1
  try clear hfz21_0
  try clear hfz21_1
  try clear hfz24_0
  try clear hfz24_1
  try clear hfz27_0
  try clear hfz27_1
  try clear hfz28_0
  try clear hfz28_1
  try clear hfz32_0
  try clear hfz32_1
  obtain ⟨kq, x28_3, rfl, HA, HJ3, BK197, BK198, BK199, HB⟩ := hcut
  cases kq with
  | zero => exact absurd HA.out (by simp [impl_CheckFarkas.j0])
  | succ kj3 =>
   have H := HA.out
   clear HA
   simp only [impl_CheckFarkas.j0] at H
   by_cases c34 : x28_3 = true
   ·subst c34
    rw [if_pos rfl] at H
    obtain rfl := Option.some.inj H
    go_wp2
    go_ret
    exact ⟨by first | rfl | (simp [errW_none, errW_some] <;> rfl) | (simp [*, errW_none, errW_some] <;> rfl), ms HB⟩
   replace c34 := Bool.eq_false_iff.mpr c34
   subst c34
   rw [if_neg (show ¬ (false = true) by decide)] at H
   obtain ⟨⟨t203, t204, t207⟩, A350, H⟩ := Option.bind_eq_some_iff.mp H
   try dsimp only at H
   have A35 := Aside0.mk A350; clear A350
   obtain ⟨⟨t209, t210, t213⟩, A360, H⟩ := Option.bind_eq_some_iff.mp H
   try dsimp only at H
   have A36 := Aside0.mk A360; clear A360
   have HC37 := Aside0.mk H; clear H
   have := NB197_198.out
   have := NB198_197.out
   have := NB197_199.out
   have := NB199_197.out
   obtain ⟨hcz40_0, hcz40_1, hfz40_0, hfz40_1⟩ := cFour BK197
   have := NB199_198.out
   have := NB198_199.out
   obtain ⟨hcz42_0, hcz42_1, hfz42_0, hfz42_1⟩ := cFour BK199
   go_upto_region 5 with (first | ((with_reducible refine gate_callee (f := 35) rfl ?_); refine gl (some 33) rfl rfl Try.func35 (by kernel_rfl) rfl #[.agg #[.int .i64 a0_0, .slice A0_1 l0_1.length c0_1], .slice A2_1 l2_1.length c2_1] rfl ?_; (with_reducible refine (impl_CombineRows.calls kj3 a0_0 _ _ l0_1 _ _ l2_1 t203 t204 t207 _ ?side1 ?side2 ?side3 ?side4 A35.out).mono ?_); (case side1 => exact mc ((Kd.C_below HR0_1.out HB.out))); (case side2 => exact HC0_1.out); (case side3 => exact mc ((Kd.C_below HR2_1.out HB.out))); (case side4 => exact HC2_1.out); rintro e w43 ⟨v205, rfl, ho0, hb⟩; refine ⟨_, rfl, ?_⟩; have HO206 := Aside0.mk (Kd.R_lower ho0 (below_size (ms HB))); replace BK197 := bb BK197 hb; replace BK198 := bb BK198 hb; replace BK199 := bb BK199 hb; replace HB := bs HB hb; (try clear hb); (try clear ho0)) | ((with_reducible refine gate_dst (N := 7) rfl ?_); refine box_event ?hg (N := 7) ?hd (cs := #[.int .i64 0, .slice none 0 0]) (t := 29) ?hr ?_; (case hd => rfl); (case hg => rfl); (case hr => first | (go_simp; done) | (go_simp; rfl)); intro gb208 hg w44 hbox hb; replace HO206 := rb HO206 hb; have BK208 := Aside0.mk (hbox); have GW208 := gw hg HB; have GE208 := gw hg HB; replace HB := bs HB hb; have NB197_208 := nl hg BK197; have NB208_197 := ng hg BK197; replace BK197 := bb BK197 hb; have NB198_208 := nl hg BK198; have NB208_198 := ng hg BK198; replace BK198 := bb BK198 hb; have NB199_208 := nl hg BK199; have NB208_199 := ng hg BK199; replace BK199 := bb BK199 hb; clear hb hbox hg; have := NB208_197.out; have := NB197_208.out; have := NB208_198.out; have := NB198_208.out; have := NB208_199.out; have := NB199_208.out; obtain ⟨hcz48_0, hcz48_1, hfz48_0, hfz48_1⟩ := cFour BK208; obtain ⟨Ao49, co49, eo49⟩ := Kd.R_slice HO206.out; subst eo49; obtain ⟨hcz50_0, hcz50_1, hfz50_0, hfz50_1⟩ := cFour BK198) | ((with_reducible refine gate_callee (f := 127) rfl ?_); refine gl (some 38) rfl rfl Try.func127 (by kernel_rfl) rfl #[.agg #[.int .i64 a1_0, .slice A1_1 l1_1.length c1_1], .int .i64 1] rfl ?_; (with_reducible refine (impl_plus.calls kj3 a1_0 _ _ l1_1 1 t209 t210 t213 _ ?side1 ?side2 A36.out).mono ?_); (case side1 => exact Kd.C_below HR1_1.out (ms HB)); (case side2 => exact HC1_1.out); rintro e w51 ⟨v211, rfl, ho0, hb⟩; refine ⟨_, rfl, ?_⟩; have n0_ := Aside0.mk (Kd.R_elder' (by (with_reducible repeat (first | apply Kd.R_alloc | apply Kd.R_drewN | apply Kd.R_drew)); exact (rTwo HO206 BK208)) (Kd.R_base ho0) hb); have n1_ := Aside0.mk (Kd.R_lower (Kd.R_new' ho0 (Kd.R_lt (by (with_reducible repeat (first | apply Kd.R_alloc | apply Kd.R_drewN | apply Kd.R_drew)); exact (rTwo HO206 BK208)))) (below_size (ms HB))); have n2_ := bf BK197 hb; have n3_ := bf BK198 hb; have n4_ := bf BK199 hb; have n5_ := bp BK208 hb; have n6_ := bs HB hb; clear HO206 BK197 BK198 BK199 BK208 HB; have HO206 := n0_; have HO212 := n1_; have BK197 := n2_; have BK198 := n3_; have BK199 := n4_; have BK208 := n5_; have HB := n6_; clear n0_ n1_ n2_ n3_ n4_ n5_ n6_; (try clear hb); (try clear ho0)) | ((with_reducible refine gate_dst (N := 9) rfl ?_); refine box_event ?hg (N := 9) ?hd (cs := #[.int .i64 0, .slice none 0 0]) (t := 29) ?hr ?_; (case hd => rfl); (case hg => rfl); (case hr => first | (go_simp; done) | (go_simp; rfl)); intro gb214 hg w52 hbox hb; replace HO206 := rb HO206 hb; replace HO212 := rb HO212 hb; have BK214 := Aside0.mk (hbox); have GW214 := gw hg HB; have GE214 := gw hg HB; replace HB := bs HB hb; have NB197_214 := nl hg BK197; have NB214_197 := ng hg BK197; replace BK197 := bb BK197 hb; have NB198_214 := nl hg BK198; have NB214_198 := ng hg BK198; replace BK198 := bb BK198 hb; have NB199_214 := nl hg BK199; have NB214_199 := ng hg BK199; replace BK199 := bb BK199 hb; have NB208_214 := nl hg BK208; have NB214_208 := ng hg BK208; replace BK208 := bb BK208 hb; clear hb hbox hg; have := NB214_197.out; have := NB197_214.out; have := NB214_198.out; have := NB198_214.out; have := NB214_199.out; have := NB199_214.out; have := NB214_208.out; have := NB208_214.out; obtain ⟨hcz57_0, hcz57_1, hfz57_0, hfz57_1⟩ := cFour BK214; obtain ⟨Ao58, co58, eo58⟩ := Kd.R_slice HO212.out; subst eo58))
   (try simp only [Act.put, List.setIfInBounds_toArray, List.set_cons_zero, List.set_cons_succ])
   go_cut [46] (fun v46 wc => ∃ (kq : Nat) (x46_36 : Bool), v46 = .bool x46_36 ∧ Aside0 (impl_CheckFarkas.j1 kq x46_36 a2_0 l2_1 t203 t204 t209 t210 = some r) ∧ Aside0 (kq ≤ kj3) ∧ Aside0 (Kd.R (Kd.int .i64) 3 wc w.heap.size (fun k_ => some k_ ≠ ((.slice Ao58 t210.length co58) : Value).ownBlock) (.slice Ao49 t204.length co49) t204) ∧ Aside0 (Kd.R (Kd.int .i64) 3 wc w.heap.size (fun k_ => some k_ ≠ ((.slice Ao49 t204.length co49) : Value).ownBlock) (.slice Ao58 t210.length co58) t210) ∧ Aside0 (wc.heap[gb197]? = some (.cells #[.int .i64 a0_0, (.slice A0_1 l0_1.length c0_1)] 26 (0, 0))) ∧ Aside0 (wc.heap[gb198]? = some (.cells #[.int .i64 a1_0, (.slice A1_1 l1_1.length c1_1)] 29 (0, 0))) ∧ Aside0 (wc.heap[gb199]? = some (.cells #[.int .i64 a2_0, (.slice A2_1 l2_1.length c2_1)] 33 (0, 0))) ∧ Aside0 (wc.heap[gb208]? = some (.cells #[.int .i64 t203, (.slice Ao49 t204.length co49)] 29 (0, 0))) ∧ Aside0 (wc.heap[gb214]? = some (.cells #[.int .i64 t209, (.slice Ao58 t210.length co58)] 29 (0, 0))) ∧ Aside0 (Below w.heap.size w wc))
   case first =>
    have H := HC37.out
    clear HC37
    by_cases c59 : t207 = true
    ·subst c59
     rw [if_pos rfl] at H
     have H' := Aside0.mk H
     clear H
     go_wp2
     go_meet
     case rel => exact ⟨_, (!t213), (by first | rfl | (simp; done) | (simp [*]; done)), H', ⟨by have := HJ3.out; first | omega | exact Nat.le_refl _⟩, ⟨by (with_reducible repeat (first | apply Kd.R_alloc | apply Kd.R_drewN | apply Kd.R_drew)); exact Kd.R_mono (Kd.R_far (p := ⟨gb214, 1, none⟩) (Kd.R_far (p := ⟨gb214, 0, none⟩) (Kd.R_types HO206.out BK214.out (by decide)) (fun _ hk => hk.2) (.int .i64 t209)) (fun _ hk => hk.2) (.slice Ao58 t210.length co58)) (fun _ hk => hk.1.2)⟩, ⟨by (with_reducible repeat (first | apply Kd.R_alloc | apply Kd.R_drewN | apply Kd.R_drew)); exact Kd.R_mono (Kd.R_far (p := ⟨gb214, 1, none⟩) (Kd.R_far (p := ⟨gb214, 0, none⟩) (Kd.R_types HO212.out BK214.out (by decide)) (fun _ hk => hk.2) (.int .i64 t209)) (fun _ hk => hk.2) (.slice Ao58 t210.length co58)) (fun _ hk => hk.1.2)⟩, ⟨mf BK197⟩, ⟨mf BK198⟩, ⟨mf BK199⟩, ⟨mf BK208⟩, ⟨mq BK214⟩, ⟨ms HB⟩⟩
    replace c59 := Bool.eq_false_iff.mpr c59
    subst c59
    rw [if_neg (show ¬ (false = true) by decide)] at H
    have H' := Aside0.mk H
    clear H
    go_wp2
    go_meet
    case rel => exact ⟨_, (true), (by first | rfl | (simp; done) | (simp [*]; done)), H', ⟨by have := HJ3.out; first | omega | exact Nat.le_refl _⟩, ⟨by (with_reducible repeat (first | apply Kd.R_alloc | apply Kd.R_drewN | apply Kd.R_drew)); exact Kd.R_mono (Kd.R_far (p := ⟨gb214, 1, none⟩) (Kd.R_far (p := ⟨gb214, 0, none⟩) (Kd.R_types HO206.out BK214.out (by decide)) (fun _ hk => hk.2) (.int .i64 t209)) (fun _ hk => hk.2) (.slice Ao58 t210.length co58)) (fun _ hk => hk.1.2)⟩, ⟨by (with_reducible repeat (first | apply Kd.R_alloc | apply Kd.R_drewN | apply Kd.R_drew)); exact Kd.R_mono (Kd.R_far (p := ⟨gb214, 1, none⟩) (Kd.R_far (p := ⟨gb214, 0, none⟩) (Kd.R_types HO212.out BK214.out (by decide)) (fun _ hk => hk.2) (.int .i64 t209)) (fun _ hk => hk.2) (.slice Ao58 t210.length co58)) (fun _ hk => hk.1.2)⟩, ⟨mf BK197⟩, ⟨mf BK198⟩, ⟨mf BK199⟩, ⟨mf BK208⟩, ⟨mq BK214⟩, ⟨ms HB⟩⟩
   case rest =>
    clear HC37
    try clear c1
    try clear c2
    try clear p2
    try clear c3
    try clear c4
    try clear c5
    try clear c7
    try clear c9
    try clear c11
    try clear c12
    try clear c13
    try clear c14
    try clear c17
    try clear c22
    try clear c23
    try clear c26
    try clear c30
    try clear c31
    try clear c34
    try clear c35
    try clear c38
    try clear c39
    try clear c41
    try clear c45
    try clear c46
    try clear c47
    try clear c53
    try clear c54
    try clear c55
    try clear c56
    try clear c59
    try clear hcz15_0
    try clear hcz15_1
    try clear hcz18_0
    try clear hcz18_1
    try clear hcz19_0
    try clear hcz19_1
    try clear hcz21_0
    try clear hcz21_1
    try clear hcz24_0
    try clear hcz24_1
    try clear hcz27_0
    try clear hcz27_1
    try clear hcz28_0
    try clear hcz28_1
    try clear hcz32_0
    try clear hcz32_1
    try clear hcz40_0
    try clear hcz40_1
    try clear hcz42_0
    try clear hcz42_1
    try clear hcz48_0
    try clear hcz48_1
    try clear hcz50_0
    try clear hcz50_1
    try clear hcz57_0
    try clear hcz57_1
    try clear hfz15_0
    try clear hfz15_1
    try clear hfz18_0
    try clear hfz18_1
    try clear hfz19_0
    try clear hfz19_1
    try clear hfz21_0
    try clear hfz21_1
    try clear hfz24_0
    try clear hfz24_1
    try clear hfz27_0
    try clear hfz27_1
    try clear hfz28_0
    try clear hfz28_1
    try clear hfz32_0
    try clear hfz32_1
    try clear hfz40_0
    try clear hfz40_1
    try clear hfz42_0
    try clear hfz42_1
    try clear hfz48_0
    try clear hfz48_1
    try clear hfz50_0
    try clear hfz50_1
    try clear hfz57_0
    try clear hfz57_1
    try clear p2
    obtain ⟨kq, x46_36, rfl, HA, HJ36, HO_209001, HO_215001, BK197, BK198, BK199, BK208, BK214, HB⟩ := hcut
    cases kq with
    | zero => exact absurd HA.out (by simp [impl_CheckFarkas.j1])
    | succ kj36 =>
     have H := HA.out
     clear HA
     simp only [impl_CheckFarkas.j1] at H
     by_cases c60 : x46_36 = true
     ·subst c60
      rw [if_pos rfl] at H
      obtain rfl := Option.some.inj H
      go_wp2
      go_ret
      exact ⟨by first | rfl | (simp [errW_none, errW_some] <;> rfl) | (simp [*, errW_none, errW_some] <;> rfl), ms HB⟩
     replace c60 := Bool.eq_false_iff.mpr c60
     subst c60
     rw [if_neg (show ¬ (false = true) by decide)] at H
     obtain ⟨⟨t215, t216, t219⟩, A610, H⟩ := Option.bind_eq_some_iff.mp H
     try dsimp only at H
     have A61 := Aside0.mk A610; clear A610
     by_cases c62 : t219 = true
     ·subst c62
      rw [if_pos rfl] at H
      obtain ⟨t221, A630, H⟩ := Option.bind_eq_some_iff.mp H
      try dsimp only at H
      have A63 := Aside0.mk A630; clear A630
      by_cases c64 : t221 = true
      ·subst c64
       rw [if_pos rfl] at H
       obtain rfl := Option.some.inj H
       have := NB208_197.out
       have := NB197_208.out
       have := NB208_198.out
       have := NB198_208.out
       have := NB208_199.out
       have := NB199_208.out
       have := NB208_214.out
       have := NB214_208.out
       obtain ⟨_, _, _, _⟩ := cFour BK208
       have := NB199_197.out
       have := NB197_199.out
       have := NB199_198.out
       have := NB198_199.out
       have := NB199_214.out
       have := NB214_199.out
       obtain ⟨_, _, _, _⟩ := cFour BK199
       have := NB214_197.out
       have := NB197_214.out
       have := NB214_198.out
       have := NB198_214.out
       obtain ⟨_, _, _, _⟩ := cFour BK214
       go_wp2_with (first | ((with_reducible refine gate_callee (f := 75) rfl ?_); refine gl (some 53) rfl rfl Try.func75 (by kernel_rfl) rfl #[.agg #[.int .i64 t203, .slice Ao49 t204.length co49], .int .i64 (wrap64 (-a2_0)), .agg #[.int .i64 t209, .slice Ao58 t210.length co58]] rfl ?_; (with_reducible refine (impl_AddScaled.calls kj36 t203 _ _ t204 (wrap64 (-a2_0)) t209 _ _ t210 t215 t216 true _ ?side1 ?side2 ?side3 ?side4 A61.out).mono ?_); (case side1 => exact mc ((Kd.R_reads' HO_209001.out).2.2)); (case side2 => exact (Kd.R_reads' HO_209001.out).2.1); (case side3 => exact mc ((Kd.R_reads' HO_215001.out).2.2)); (case side4 => exact (Kd.R_reads' HO_215001.out).2.1); rintro e w77 ⟨v217, rfl, ho0, hb⟩; refine ⟨_, rfl, ?_⟩; have HO218 := Aside0.mk (Kd.R_lower (Kd.R_new' (Kd.R_new' ho0 (Kd.R_lt (mr HO_209001))) (Kd.R_lt (mr HO_215001))) (below_size (ms HB))); replace HO_209001 := rl HO_209001 ho0 hb; replace HO_215001 := rl HO_215001 ho0 hb; replace BK197 := bb BK197 hb; replace BK198 := bb BK198 hb; replace BK199 := bb BK199 hb; replace BK208 := bb BK208 hb; replace BK214 := bb BK214 hb; replace HB := bs HB hb; (try clear hb); (try clear ho0)) | ((with_reducible refine gate_dst (N := 11) rfl ?_); refine box_event ?hg (N := 11) ?hd (cs := #[.int .i64 0, .slice none 0 0]) (t := 29) ?hr ?_; (case hd => rfl); (case hg => rfl); (case hr => first | (go_simp; done) | (go_simp; rfl)); intro gb220 hg w78 hbox hb; replace HO_209001 := rb HO_209001 hb; replace HO_215001 := rb HO_215001 hb; replace HO218 := rb HO218 hb; have BK220 := Aside0.mk (hbox); have GW220 := gw hg HB; have GE220 := gw hg HB; replace HB := bs HB hb; have NB197_220 := nl hg BK197; have NB220_197 := ng hg BK197; replace BK197 := bb BK197 hb; have NB198_220 := nl hg BK198; have NB220_198 := ng hg BK198; replace BK198 := bb BK198 hb; have NB199_220 := nl hg BK199; have NB220_199 := ng hg BK199; replace BK199 := bb BK199 hb; have NB208_220 := nl hg BK208; have NB220_208 := ng hg BK208; replace BK208 := bb BK208 hb; have NB214_220 := nl hg BK214; have NB220_214 := ng hg BK214; replace BK214 := bb BK214 hb; clear hb hbox hg; have := NB220_197.out; have := NB197_220.out; have := NB220_198.out; have := NB198_220.out; have := NB220_199.out; have := NB199_220.out; have := NB220_208.out; have := NB208_220.out; have := NB220_214.out; have := NB214_220.out; obtain ⟨_, _, _, _⟩ := cFour BK220; obtain ⟨Ao85, co85, eo85⟩ := Kd.R_slice HO218.out; subst eo85) | (go_at_call 128; (with_reducible refine (impl_IsConstant.calls kj36 t215 _ _ t216 true _ ?side1 ?side2 A63.out).mono ?_); (case side1 => refine (Kd.R_reads' (e := 3) (base := w.heap.size) (ok := fun k_ => ((True ∧ some k_ ≠ (.slice Ao49 t204.length co49 : Value).ownBlock) ∧ some k_ ≠ (.slice Ao58 t210.length co58 : Value).ownBlock)) (n := t216.length) (c := co85) ?_).2.2; exact (by (with_reducible repeat (first | apply Kd.R_alloc | apply Kd.R_drewN | apply Kd.R_drew)); exact (rTwo HO218 BK220))); (case side2 => exact (Kd.R_reads' HO218.out).2.1); rintro e w86 ⟨rfl, hb⟩; have n0_ := Aside0.mk (Kd.R_below (by (with_reducible repeat (first | apply Kd.R_alloc | apply Kd.R_drewN | apply Kd.R_drew)); exact (rTwo HO_209001 BK220)) hb); have n1_ := Aside0.mk (Kd.R_below (by (with_reducible repeat (first | apply Kd.R_alloc | apply Kd.R_drewN | apply Kd.R_drew)); exact (rTwo HO_215001 BK220)) hb); have n2_ := Aside0.mk (Kd.R_below (by (with_reducible repeat (first | apply Kd.R_alloc | apply Kd.R_drewN | apply Kd.R_drew)); exact (rTwo HO218 BK220)) hb); have n3_ := bf BK197 hb; have n4_ := bf BK198 hb; have n5_ := bf BK199 hb; have n6_ := bf BK208 hb; have n7_ := bf BK214 hb; have n8_ := bp BK220 hb; have n9_ := bs HB hb; clear HO_209001 HO_215001 HO218 BK197 BK198 BK199 BK208 BK214 BK220 HB; have HO_209001 := n0_; have HO_215001 := n1_; have HO218 := n2_; have BK197 := n3_; have BK198 := n4_; have BK199 := n5_; have BK208 := n6_; have BK214 := n7_; have BK220 := n8_; have HB := n9_; clear n0_ n1_ n2_ n3_ n4_ n5_ n6_ n7_ n8_ n9_; (try clear hb); obtain ⟨_, _, _, _⟩ := cFour BK220))
       go_ret
       exact ⟨by first | rfl | (simp [errW_none, errW_some] <;> rfl) | (simp [*, errW_none, errW_some] <;> rfl), ms HB⟩
      replace c64 := Bool.eq_false_iff.mpr c64
      subst c64
      rw [if_neg (show ¬ (false = true) by decide)] at H
      obtain rfl := Option.some.inj H
      have := NB208_197.out
      have := NB197_208.out
      have := NB208_198.out
      have := NB198_208.out
      have := NB208_199.out
      have := NB199_208.out
      have := NB208_214.out
      have := NB214_208.out
      obtain ⟨_, _, _, _⟩ := cFour BK208
      have := NB199_197.out
      have := NB197_199.out
      have := NB199_198.out
      have := NB198_199.out
      have := NB199_214.out
      have := NB214_199.out
      obtain ⟨_, _, _, _⟩ := cFour BK199
      have := NB214_197.out
      have := NB197_214.out
      have := NB214_198.out
      have := NB198_214.out
      obtain ⟨_, _, _, _⟩ := cFour BK214
      go_wp2_with (first | ((with_reducible refine gate_callee (f := 75) rfl ?_); refine gl (some 53) rfl rfl Try.func75 (by kernel_rfl) rfl #[.agg #[.int .i64 t203, .slice Ao49 t204.length co49], .int .i64 (wrap64 (-a2_0)), .agg #[.int .i64 t209, .slice Ao58 t210.length co58]] rfl ?_; (with_reducible refine (impl_AddScaled.calls kj36 t203 _ _ t204 (wrap64 (-a2_0)) t209 _ _ t210 t215 t216 true _ ?side1 ?side2 ?side3 ?side4 A61.out).mono ?_); (case side1 => exact mc ((Kd.R_reads' HO_209001.out).2.2)); (case side2 => exact (Kd.R_reads' HO_209001.out).2.1); (case side3 => exact mc ((Kd.R_reads' HO_215001.out).2.2)); (case side4 => exact (Kd.R_reads' HO_215001.out).2.1); rintro e w100 ⟨v217, rfl, ho0, hb⟩; refine ⟨_, rfl, ?_⟩; have HO218 := Aside0.mk (Kd.R_lower (Kd.R_new' (Kd.R_new' ho0 (Kd.R_lt (mr HO_209001))) (Kd.R_lt (mr HO_215001))) (below_size (ms HB))); replace HO_209001 := rl HO_209001 ho0 hb; replace HO_215001 := rl HO_215001 ho0 hb; replace BK197 := bb BK197 hb; replace BK198 := bb BK198 hb; replace BK199 := bb BK199 hb; replace BK208 := bb BK208 hb; replace BK214 := bb BK214 hb; replace HB := bs HB hb; (try clear hb); (try clear ho0)) | ((with_reducible refine gate_dst (N := 11) rfl ?_); refine box_event ?hg (N := 11) ?hd (cs := #[.int .i64 0, .slice none 0 0]) (t := 29) ?hr ?_; (case hd => rfl); (case hg => rfl); (case hr => first | (go_simp; done) | (go_simp; rfl)); intro gb220 hg w101 hbox hb; replace HO_209001 := rb HO_209001 hb; replace HO_215001 := rb HO_215001 hb; replace HO218 := rb HO218 hb; have BK220 := Aside0.mk (hbox); have GW220 := gw hg HB; have GE220 := gw hg HB; replace HB := bs HB hb; have NB197_220 := nl hg BK197; have NB220_197 := ng hg BK197; replace BK197 := bb BK197 hb; have NB198_220 := nl hg BK198; have NB220_198 := ng hg BK198; replace BK198 := bb BK198 hb; have NB199_220 := nl hg BK199; have NB220_199 := ng hg BK199; replace BK199 := bb BK199 hb; have NB208_220 := nl hg BK208; have NB220_208 := ng hg BK208; replace BK208 := bb BK208 hb; have NB214_220 := nl hg BK214; have NB220_214 := ng hg BK214; replace BK214 := bb BK214 hb; clear hb hbox hg; have := NB220_197.out; have := NB197_220.out; have := NB220_198.out; have := NB198_220.out; have := NB220_199.out; have := NB199_220.out; have := NB220_208.out; have := NB208_220.out; have := NB220_214.out; have := NB214_220.out; obtain ⟨_, _, _, _⟩ := cFour BK220; obtain ⟨Ao108, co108, eo108⟩ := Kd.R_slice HO218.out; subst eo108) | (go_at_call 128; (with_reducible refine (impl_IsConstant.calls kj36 t215 _ _ t216 false _ ?side1 ?side2 A63.out).mono ?_); (case side1 => refine (Kd.R_reads' (e := 3) (base := w.heap.size) (ok := fun k_ => ((True ∧ some k_ ≠ (.slice Ao49 t204.length co49 : Value).ownBlock) ∧ some k_ ≠ (.slice Ao58 t210.length co58 : Value).ownBlock)) (n := t216.length) (c := co108) ?_).2.2; exact (by (with_reducible repeat (first | apply Kd.R_alloc | apply Kd.R_drewN | apply Kd.R_drew)); exact (rTwo HO218 BK220))); (case side2 => exact (Kd.R_reads' HO218.out).2.1); rintro e w109 ⟨rfl, hb⟩; have n0_ := Aside0.mk (Kd.R_below (by (with_reducible repeat (first | apply Kd.R_alloc | apply Kd.R_drewN | apply Kd.R_drew)); exact (rTwo HO_209001 BK220)) hb); have n1_ := Aside0.mk (Kd.R_below (by (with_reducible repeat (first | apply Kd.R_alloc | apply Kd.R_drewN | apply Kd.R_drew)); exact (rTwo HO_215001 BK220)) hb); have n2_ := Aside0.mk (Kd.R_below (by (with_reducible repeat (first | apply Kd.R_alloc | apply Kd.R_drewN | apply Kd.R_drew)); exact (rTwo HO218 BK220)) hb); have n3_ := bf BK197 hb; have n4_ := bf BK198 hb; have n5_ := bf BK199 hb; have n6_ := bf BK208 hb; have n7_ := bf BK214 hb; have n8_ := bp BK220 hb; have n9_ := bs HB hb; clear HO_209001 HO_215001 HO218 BK197 BK198 BK199 BK208 BK214 BK220 HB; have HO_209001 := n0_; have HO_215001 := n1_; have HO218 := n2_; have BK197 := n3_; have BK198 := n4_; have BK199 := n5_; have BK208 := n6_; have BK214 := n7_; have BK220 := n8_; have HB := n9_; clear n0_ n1_ n2_ n3_ n4_ n5_ n6_ n7_ n8_ n9_; (try clear hb)))
      go_ret
      exact ⟨by first | rfl | (simp [errW_none, errW_some] <;> rfl) | (simp [*, errW_none, errW_some] <;> rfl), ms HB⟩
     replace c62 := Bool.eq_false_iff.mpr c62
     subst c62
     rw [if_neg (show ¬ (false = true) by decide)] at H
     obtain rfl := Option.some.inj H
     have := NB208_197.out
     have := NB197_208.out
     have := NB208_198.out
     have := NB198_208.out
     have := NB208_199.out
     have := NB199_208.out
     have := NB208_214.out
     have := NB214_208.out
     obtain ⟨_, _, _, _⟩ := cFour BK208
     have := NB199_197.out
     have := NB197_199.out
     have := NB199_198.out
     have := NB198_199.out
     have := NB199_214.out
     have := NB214_199.out
     obtain ⟨_, _, _, _⟩ := cFour BK199
     have := NB214_197.out
     have := NB197_214.out
     have := NB214_198.out
     have := NB198_214.out
     obtain ⟨_, _, _, _⟩ := cFour BK214
     go_wp2_with (first | ((with_reducible refine gate_callee (f := 75) rfl ?_); refine gl (some 53) rfl rfl Try.func75 (by kernel_rfl) rfl #[.agg #[.int .i64 t203, .slice Ao49 t204.length co49], .int .i64 (wrap64 (-a2_0)), .agg #[.int .i64 t209, .slice Ao58 t210.length co58]] rfl ?_; (with_reducible refine (impl_AddScaled.calls kj36 t203 _ _ t204 (wrap64 (-a2_0)) t209 _ _ t210 t215 t216 false _ ?side1 ?side2 ?side3 ?side4 A61.out).mono ?_); (case side1 => exact mc ((Kd.R_reads' HO_209001.out).2.2)); (case side2 => exact (Kd.R_reads' HO_209001.out).2.1); (case side3 => exact mc ((Kd.R_reads' HO_215001.out).2.2)); (case side4 => exact (Kd.R_reads' HO_215001.out).2.1); rintro e w122 ⟨v217, rfl, ho0, hb⟩; refine ⟨_, rfl, ?_⟩; have HO218 := Aside0.mk (Kd.R_lower (Kd.R_new' (Kd.R_new' ho0 (Kd.R_lt (mr HO_209001))) (Kd.R_lt (mr HO_215001))) (below_size (ms HB))); replace HO_209001 := rl HO_209001 ho0 hb; replace HO_215001 := rl HO_215001 ho0 hb; replace BK197 := bb BK197 hb; replace BK198 := bb BK198 hb; replace BK199 := bb BK199 hb; replace BK208 := bb BK208 hb; replace BK214 := bb BK214 hb; replace HB := bs HB hb; (try clear hb); (try clear ho0)) | ((with_reducible refine gate_dst (N := 11) rfl ?_); refine box_event ?hg (N := 11) ?hd (cs := #[.int .i64 0, .slice none 0 0]) (t := 29) ?hr ?_; (case hd => rfl); (case hg => rfl); (case hr => first | (go_simp; done) | (go_simp; rfl)); intro gb220 hg w123 hbox hb; replace HO_209001 := rb HO_209001 hb; replace HO_215001 := rb HO_215001 hb; replace HO218 := rb HO218 hb; have BK220 := Aside0.mk (hbox); have GW220 := gw hg HB; have GE220 := gw hg HB; replace HB := bs HB hb; have NB197_220 := nl hg BK197; have NB220_197 := ng hg BK197; replace BK197 := bb BK197 hb; have NB198_220 := nl hg BK198; have NB220_198 := ng hg BK198; replace BK198 := bb BK198 hb; have NB199_220 := nl hg BK199; have NB220_199 := ng hg BK199; replace BK199 := bb BK199 hb; have NB208_220 := nl hg BK208; have NB220_208 := ng hg BK208; replace BK208 := bb BK208 hb; have NB214_220 := nl hg BK214; have NB220_214 := ng hg BK214; replace BK214 := bb BK214 hb; clear hb hbox hg; have := NB220_197.out; have := NB197_220.out; have := NB220_198.out; have := NB198_220.out; have := NB220_199.out; have := NB199_220.out; have := NB220_208.out; have := NB208_220.out; have := NB220_214.out; have := NB214_220.out; obtain ⟨_, _, _, _⟩ := cFour BK220; obtain ⟨Ao130, co130, eo130⟩ := Kd.R_slice HO218.out; subst eo130))
     go_ret
     exact ⟨by first | rfl | (simp [errW_none, errW_some] <;> rfl) | (simp [*, errW_none, errW_some] <;> rfl), ms HB⟩

end Go.Proofs.Ytlencemmlgkflaa.QFnEntailed
