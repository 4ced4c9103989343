-- Made by a program of this claim's own (wip/print): not the kit's print as it stands.
import Derived.Test.YtghiljjkaiggfaaUFnExactCheckFarkasTri
import Derived.Test.YtghiljjkaiggfaaQFnExactCheckFarkasx0
import Derived.Test.YtghiljjkaiggfaaQFnExactCheckFarkasx1
import Derived.Test.YtghiljjkaiggfaaQFnExactCheckFarkasx8
import Derived.Test.YtghiljjkaiggfaaQFnExactCheckFarkasx9
import Derived.Test.YtghiljjkaiggfaaQFnExactCheckFarkasx10
import Derived.Test.YtghiljjkaiggfaaQFnExactCheckFarkasx11
namespace Go.Proofs.Ytghiljjkaiggfaa.QFnExactCheckFarkas
open Go.RowKit Go.Proofs.YtghiljjkaiggfaaV.PrintWords Go.Proofs.YtghiljjkaiggfaaV.PrintLast Go.Proofs.YtghiljjkaiggfaaV.PrintMore
attribute [local go_sem] max2_int min2_int max_two min_two max_three min_three max_four min_four   -- for this text's walks alone
set_option linter.unusedVariables false
set_option linter.unusedSimpArgs false

/-! ### impl_CheckFarkas: function 48 -/
mutual
def impl_CheckFarkas.j0 : Nat → Bool → Int → List (S36) → Int → List Int → Int → List Int → Option (Bool)
 | 0, _, _, _, _, _, _, _ => none
 | k + 1, x28, x337000, x337001, x338000, x338001, x339000, x339001 => if x28 = true then (some false) else ((impl_CombineRows.f k x337000 x337001 x339001).bind fun bt342 => ((impl_plus.f k x338000 x338001 1).bind fun bt348 => (if bt342.2.2 = true then (impl_CheckFarkas.j1 k (!bt348.2.2) x339000 x339001 bt342.1 bt342.2.1 bt348.1 bt348.2.1) else (impl_CheckFarkas.j1 k true x339000 x339001 bt342.1 bt342.2.1 bt348.1 bt348.2.1))))
def impl_CheckFarkas.j1 : Nat → Bool → Int → List Int → Int → List Int → Int → List Int → Option (Bool)
 | 0, _, _, _, _, _, _, _ => none
 | k + 1, x46, x339000, x339001, x348000, x348001, x354000, x354001 => if x46 = true then (some false) else ((impl_AddScaled.f k x348000 x348001 (wrap64 (-x339000)) x354000 x354001).bind fun bt354 => (if bt354.2.2 = true then ((impl_IsConstant.f k bt354.1 bt354.2.1).bind fun t360 => (if t360 = true then (some (decide (bt354.1 < 0))) else (some false))) else (some false)))
end
def impl_CheckFarkas.f (k : Nat) (a0_0 : Int) (l0_1 : List (S36)) (a1_0 : Int) (l1_1 : List Int) (a2_0 : Int) (l2_1 : List Int) : Option (Bool) := (impl_IsValidSystem.f k a0_0 l0_1).bind fun t339 => (if t339 = true then ((impl_IsValidLin.f k a1_0 l1_1 a0_0).bind fun t340 => (if t340 = true then ((impl_within.f a2_0 0 1000000000).bind fun t341 => (impl_CheckFarkas.j0 k (!t341) a0_0 l0_1 a1_0 l1_1 a2_0 l2_1)) else (impl_CheckFarkas.j0 k true a0_0 l0_1 a1_0 l1_1 a2_0 l2_1))) else (impl_CheckFarkas.j0 k true a0_0 l0_1 a1_0 l1_1 a2_0 l2_1))
theorem impl_CheckFarkas.mono_l : ∀ k, (∀ y0 y1 y2 y3 y4 y5 y6, LeO (impl_CheckFarkas.j0 k y0 y1 y2 y3 y4 y5 y6) (impl_CheckFarkas.j0 (k + 1) y0 y1 y2 y3 y4 y5 y6)) ∧ (∀ y0 y1 y2 y3 y4 y5 y6, LeO (impl_CheckFarkas.j1 k y0 y1 y2 y3 y4 y5 y6) (impl_CheckFarkas.j1 (k + 1) y0 y1 y2 y3 y4 y5 y6))
 | 0 => ⟨fun _ _ _ _ _ _ _ r h => by simp [impl_CheckFarkas.j0] at h, fun _ _ _ _ _ _ _ r h => by simp [impl_CheckFarkas.j1] at h⟩
 | k + 1 => by
  obtain ⟨ih0, ih1⟩ := impl_CheckFarkas.mono_l k
  refine ⟨?_, ?_⟩
  ·intro y0 y1 y2 y3 y4 y5 y6
   unfold impl_CheckFarkas.j0
   repeat' first
   | (with_reducible exact ih0 _ _ _ _ _ _ _)
   | (with_reducible exact ih1 _ _ _ _ _ _ _)
   | (with_reducible exact impl_AddScaled.mono _ _ _ _ _ _)
   | (with_reducible exact impl_CombineRows.mono _ _ _ _)
   | (with_reducible exact impl_IsConstant.mono _ _ _)
   | (with_reducible exact impl_IsValidLin.mono _ _ _ _)
   | (with_reducible exact impl_IsValidSystem.mono _ _ _)
   | (with_reducible exact impl_plus.mono _ _ _ _)
   | (with_reducible exact LeO.refl _)
   | (with_reducible exact LeO.none _)
   | (with_reducible refine LeO.ite ?_ ?_)
   | (with_reducible refine LeO.bind ?_ (fun _ => ?_))
   | exact ih0 _ _ _ _ _ _ _
   | exact ih1 _ _ _ _ _ _ _
   | exact impl_AddScaled.mono _ _ _ _ _ _
   | exact impl_CombineRows.mono _ _ _ _
   | exact impl_IsConstant.mono _ _ _
   | exact impl_IsValidLin.mono _ _ _ _
   | exact impl_IsValidSystem.mono _ _ _
   | exact impl_plus.mono _ _ _ _
   | exact LeO.none _
   | refine LeO.ite ?_ ?_
   | refine LeO.bind ?_ (fun _ => ?_)
  ·intro y0 y1 y2 y3 y4 y5 y6
   unfold impl_CheckFarkas.j1
   repeat' first
   | (with_reducible exact ih0 _ _ _ _ _ _ _)
   | (with_reducible exact ih1 _ _ _ _ _ _ _)
   | (with_reducible exact impl_AddScaled.mono _ _ _ _ _ _)
   | (with_reducible exact impl_CombineRows.mono _ _ _ _)
   | (with_reducible exact impl_IsConstant.mono _ _ _)
   | (with_reducible exact impl_IsValidLin.mono _ _ _ _)
   | (with_reducible exact impl_IsValidSystem.mono _ _ _)
   | (with_reducible exact impl_plus.mono _ _ _ _)
   | (with_reducible exact LeO.refl _)
   | (with_reducible exact LeO.none _)
   | (with_reducible refine LeO.ite ?_ ?_)
   | (with_reducible refine LeO.bind ?_ (fun _ => ?_))
   | exact ih0 _ _ _ _ _ _ _
   | exact ih1 _ _ _ _ _ _ _
   | exact impl_AddScaled.mono _ _ _ _ _ _
   | exact impl_CombineRows.mono _ _ _ _
   | exact impl_IsConstant.mono _ _ _
   | exact impl_IsValidLin.mono _ _ _ _
   | exact impl_IsValidSystem.mono _ _ _
   | exact impl_plus.mono _ _ _ _
   | exact LeO.none _
   | refine LeO.ite ?_ ?_
   | refine LeO.bind ?_ (fun _ => ?_)
theorem impl_CheckFarkas.mono : ∀ a0 a1 a2 a3 a4 a5 k, LeO (impl_CheckFarkas.f k a0 a1 a2 a3 a4 a5) (impl_CheckFarkas.f (k + 1) a0 a1 a2 a3 a4 a5) := by
 intro a0 a1 a2 a3 a4 a5 k
 obtain ⟨ih0, ih1⟩ := impl_CheckFarkas.mono_l k
 unfold impl_CheckFarkas.f
 repeat' first
   | (with_reducible exact ih0 _ _ _ _ _ _ _)
   | (with_reducible exact ih1 _ _ _ _ _ _ _)
   | (with_reducible exact impl_AddScaled.mono _ _ _ _ _ _)
   | (with_reducible exact impl_CombineRows.mono _ _ _ _)
   | (with_reducible exact impl_IsConstant.mono _ _ _)
   | (with_reducible exact impl_IsValidLin.mono _ _ _ _)
   | (with_reducible exact impl_IsValidSystem.mono _ _ _)
   | (with_reducible exact impl_plus.mono _ _ _ _)
   | (with_reducible exact LeO.refl _)
   | (with_reducible exact LeO.none _)
   | (with_reducible refine LeO.ite ?_ ?_)
   | (with_reducible refine LeO.bind ?_ (fun _ => ?_))
   | exact ih0 _ _ _ _ _ _ _
   | exact ih1 _ _ _ _ _ _ _
   | exact impl_AddScaled.mono _ _ _ _ _ _
   | exact impl_CombineRows.mono _ _ _ _
   | exact impl_IsConstant.mono _ _ _
   | exact impl_IsValidLin.mono _ _ _ _
   | exact impl_IsValidSystem.mono _ _ _
   | exact impl_plus.mono _ _ _ _
   | exact LeO.none _
   | refine LeO.ite ?_ ?_
   | refine LeO.bind ?_ (fun _ => ?_)
set_option maxHeartbeats 8000000 in
set_option maxRecDepth 100000 in
theorem impl_CheckFarkas.calls (k : Nat) (a0_0 : Int) (A0_1 : Option Addr) (c0_1 : Nat) (l0_1 : List (S36)) (a1_0 : Int) (A1_1 : Option Addr) (c1_1 : Nat) (l1_1 : List Int) (a2_0 : Int) (A2_1 : Option Addr) (c2_1 : Nat) (l2_1 : List Int) (r : Bool) (w : World) (hr0_1 : Kd.C k36 w A0_1 l0_1.length l0_1) (hc0_1 : l0_1.length ≤ c0_1) (hr1_1 : Kd.C (Kd.int .i64) w A1_1 l1_1.length l1_1) (hc1_1 : l1_1.length ≤ c1_1) (hr2_1 : Kd.C (Kd.int .i64) w A2_1 l2_1.length l2_1) (hc2_1 : l2_1.length ≤ c2_1) (h : impl_CheckFarkas.f k a0_0 l0_1 a1_0 l1_1 a2_0 l2_1 = some r) :
  Calls Try.prog 48 #[.agg #[.int .i64 a0_0, .slice A0_1 l0_1.length c0_1], .agg #[.int .i64 a1_0, .slice A1_1 l1_1.length c1_1], .agg #[.int .i64 a2_0, .slice A2_1 l2_1.length c2_1]] w fun e w' => e = .returned (.bool r) ∧ Below w.heap.size w w' := by
 have hu32 := Try.underlying32
 have hu36 := Try.underlying36
 have hu65 := Try.underlying65
 have HR0_1 := Aside0.mk hr0_1
 have HC0_1 := Aside0.mk hc0_1
 clear hr0_1 hc0_1
 have HR1_1 := Aside0.mk hr1_1
 have HC1_1 := Aside0.mk hc1_1
 clear hr1_1 hc1_1
 have HR2_1 := Aside0.mk hr2_1
 have HC2_1 := Aside0.mk hc2_1
 clear hr2_1 hc2_1
 have HB := Aside0.mk (Below.refl w.heap.size w)
 have H : ((impl_IsValidSystem.f k a0_0 l0_1).bind fun t339 => (if t339 = true then ((impl_IsValidLin.f k a1_0 l1_1 a0_0).bind fun t340 => (if t340 = true then ((impl_within.f a2_0 0 1000000000).bind fun t341 => (impl_CheckFarkas.j0 k (!t341) a0_0 l0_1 a1_0 l1_1 a2_0 l2_1)) else (impl_CheckFarkas.j0 k true a0_0 l0_1 a1_0 l1_1 a2_0 l2_1))) else (impl_CheckFarkas.j0 k true a0_0 l0_1 a1_0 l1_1 a2_0 l2_1))) = some r := h
 clear h
 have HC4 := Aside0.mk H
 clear H
 go_enter Try.func48, Try.ntmps48
 go_upto_region 1 with (first | ((with_reducible refine gate_dst (N := 3) rfl ?_); refine box_event ?hg (N := 3) ?hd (cs := #[.int .i64 a0_0, .slice A0_1 l0_1.length c0_1]) (t := 32) ?hr ?_; (case hd => rfl); (case hg => rfl); (case hr => first | (go_simp; done) | (go_simp; rfl)); intro gb336 hg w5 hbox hb; have BK336 := Aside0.mk (hbox); have GW336 := gw hg HB; have GE336 := gw hg HB; replace HB := bs HB hb; clear hb hbox hg) | ((with_reducible refine gate_dst (N := 4) rfl ?_); refine box_event ?hg (N := 4) ?hd (cs := #[.int .i64 a1_0, .slice A1_1 l1_1.length c1_1]) (t := 36) ?hr ?_; (case hd => rfl); (case hg => rfl); (case hr => first | (go_simp; done) | (go_simp; rfl)); intro gb337 hg w6 hbox hb; have BK337 := Aside0.mk (hbox); have GW337 := gw hg HB; have GE337 := gw hg HB; replace HB := bs HB hb; have NB336_337 := nl hg BK336; have NB337_336 := ng hg BK336; replace BK336 := bb BK336 hb; clear hb hbox hg) | ((with_reducible refine gate_dst (N := 5) rfl ?_); refine box_event ?hg (N := 5) ?hd (cs := #[.int .i64 a2_0, .slice A2_1 l2_1.length c2_1]) (t := 65) ?hr ?_; (case hd => rfl); (case hg => rfl); (case hr => first | (go_simp; done) | (go_simp; rfl)); intro gb338 hg w7 hbox hb; have BK338 := Aside0.mk (hbox); have GW338 := gw hg HB; have GE338 := gw hg HB; replace HB := bs HB hb; have NB336_338 := nl hg BK336; have NB338_336 := ng hg BK336; replace BK336 := bb BK336 hb; have NB337_338 := nl hg BK337; have NB338_337 := ng hg BK337; replace BK337 := bb BK337 hb; clear hb hbox hg))
 (try simp only [Act.put, List.setIfInBounds_toArray, List.set_cons_zero, List.set_cons_succ])
 go_cut [28] (fun v28 wc => ∃ (kq : Nat) (x28_3 : Bool), v28 = .bool x28_3 ∧ Aside0 (impl_CheckFarkas.j0 kq x28_3 a0_0 l0_1 a1_0 l1_1 a2_0 l2_1 = some r) ∧ Aside0 (kq ≤ k) ∧ Aside0 (wc.heap[gb336]? = some (.cells #[.int .i64 a0_0, (.slice A0_1 l0_1.length c0_1)] 32 (0, 0))) ∧ Aside0 (wc.heap[gb337]? = some (.cells #[.int .i64 a1_0, (.slice A1_1 l1_1.length c1_1)] 36 (0, 0))) ∧ Aside0 (wc.heap[gb338]? = some (.cells #[.int .i64 a2_0, (.slice A2_1 l2_1.length c2_1)] 65 (0, 0))) ∧ Aside0 (Below w.heap.size w wc))
 case first =>
  have H := HC4.out
  clear HC4
  replace H := Option.bind_eq_some_iff.mp H
  obtain ⟨t339, A80, H⟩ := H
  replace H : (if t339 = true then ((impl_IsValidLin.f k a1_0 l1_1 a0_0).bind fun t340 => (if t340 = true then ((impl_within.f a2_0 0 1000000000).bind fun t341 => (impl_CheckFarkas.j0 k (!t341) a0_0 l0_1 a1_0 l1_1 a2_0 l2_1)) else (impl_CheckFarkas.j0 k true a0_0 l0_1 a1_0 l1_1 a2_0 l2_1))) else (impl_CheckFarkas.j0 k true a0_0 l0_1 a1_0 l1_1 a2_0 l2_1)) = some r := H
  have A8 := Aside0.mk A80
  clear A80
  by_cases c9 : t339 = true
  ·subst c9
   have H1 : ((impl_IsValidLin.f k a1_0 l1_1 a0_0).bind fun t340 => (if t340 = true then ((impl_within.f a2_0 0 1000000000).bind fun t341 => (impl_CheckFarkas.j0 k (!t341) a0_0 l0_1 a1_0 l1_1 a2_0 l2_1)) else (impl_CheckFarkas.j0 k true a0_0 l0_1 a1_0 l1_1 a2_0 l2_1))) = some r := by rw [if_pos rfl] at H; exact H
   clear H
   have H := H1
   clear H1
   replace H := Option.bind_eq_some_iff.mp H
   obtain ⟨t340, A100, H⟩ := H
   replace H : (if t340 = true then ((impl_within.f a2_0 0 1000000000).bind fun t341 => (impl_CheckFarkas.j0 k (!t341) a0_0 l0_1 a1_0 l1_1 a2_0 l2_1)) else (impl_CheckFarkas.j0 k true a0_0 l0_1 a1_0 l1_1 a2_0 l2_1)) = some r := H
   have A10 := Aside0.mk A100
   clear A100
   by_cases c11 : t340 = true
   ·subst c11
    have H1 : ((impl_within.f a2_0 0 1000000000).bind fun t341 => (impl_CheckFarkas.j0 k (!t341) a0_0 l0_1 a1_0 l1_1 a2_0 l2_1)) = some r := by rw [if_pos rfl] at H; exact H
    clear H
    have H := H1
    clear H1
    replace H := Option.bind_eq_some_iff.mp H
    obtain ⟨t341, A120, H⟩ := H
    replace H : (impl_CheckFarkas.j0 k (!t341) a0_0 l0_1 a1_0 l1_1 a2_0 l2_1) = some r := H
    have A12 := Aside0.mk A120
    clear A120
    have H' := Aside0.mk H
    clear H
    have hnb13 := NB336_337.out
    have hnc13 := NB337_336.out
    have hnb14 := NB336_338.out
    have hnc14 := NB338_336.out
    obtain ⟨hcz15_0, hcz15_1⟩ := c2 BK336
    have hfz15_0 := blk_frozen BK336.out 0
    have hfz15_1 := blk_frozen BK336.out 1
    go_wp2_with (first | ((with_reducible refine gate_callee (f := 33) rfl ?_); refine goesL_ (some 14) rfl rfl Try.func33 (by kernel_rfl) rfl #[.agg #[.int .i64 a0_0, .slice A0_1 l0_1.length c0_1]] rfl (by (try simp only [List.map_toArray, List.map_cons, List.map_nil]); first | done | rfl | (simp only [List.length_drop, List.length_take]; rfl)) ?_; (with_reducible refine (impl_IsValidSystem.calls k a0_0 _ _ l0_1 true _ ?side1 ?side2 A8.out).mono ?_); (case side1 => exact mc ((Kd.C_below HR0_1.out HB.out))); (case side2 => exact HC0_1.out); rintro e w16 ⟨rfl, hb⟩; refine ⟨_, rfl, ?_⟩; replace BK336 := bb BK336 hb; replace BK337 := bb BK337 hb; replace BK338 := bb BK338 hb; replace HB := bs HB hb; (try clear hb); have hnb17 := NB337_338.out; have hnc17 := NB338_337.out; obtain ⟨hcz18_0, hcz18_1⟩ := c2 BK337; have hfz18_0 := blk_frozen BK337.out 0; have hfz18_1 := blk_frozen BK337.out 1; obtain ⟨hcz19_0, hcz19_1⟩ := c2 BK336; have hfz19_0 := blk_frozen BK336.out 0; have hfz19_1 := blk_frozen BK336.out 1) | (go_at_call 85; (with_reducible refine (impl_IsValidLin.calls k a1_0 _ _ l1_1 a0_0 true _ ?side1 ?side2 A10.out).mono ?_); (case side1 => exact mc ((Kd.C_below HR1_1.out HB.out))); (case side2 => exact HC1_1.out); rintro e w20 ⟨rfl, hb⟩; replace BK336 := bb BK336 hb; replace BK337 := bb BK337 hb; replace BK338 := bb BK338 hb; replace HB := bs HB hb; (try clear hb); obtain ⟨hcz21_0, hcz21_1⟩ := c2 BK338; have hfz21_0 := blk_frozen BK338.out 0; have hfz21_1 := blk_frozen BK338.out 1) | (go_at_call 73; (with_reducible refine (impl_within.calls a2_0 0 1000000000 t341 _ A12.out).mono ?_); rintro e w' ⟨rfl, ⟨nd, rfl⟩⟩))
    go_meet
    case rel => exact ⟨_, (!t341), (by first | rfl | (simp; done) | (simp [*]; done)), H', ⟨by first | omega | exact Nat.le_refl _⟩, ⟨by (with_reducible repeat (first | refine blk_drewN ?_ _ | refine blk_drew ?_ | refine blk_alloc ?_ _)); exact BK336.out⟩, ⟨by (with_reducible repeat (first | refine blk_drewN ?_ _ | refine blk_drew ?_ | refine blk_alloc ?_ _)); exact BK337.out⟩, ⟨by (with_reducible repeat (first | refine blk_drewN ?_ _ | refine blk_drew ?_ | refine blk_alloc ?_ _)); exact BK338.out⟩, ⟨ms HB⟩⟩
   ·replace c11 := Bool.eq_false_iff.mpr c11
    subst c11
    have H1 : (impl_CheckFarkas.j0 k true a0_0 l0_1 a1_0 l1_1 a2_0 l2_1) = some r := by rw [if_neg (show ¬ (false = true) by decide)] at H; exact H
    clear H
    have H := H1
    clear H1
    have H' := Aside0.mk H
    clear H
    have hnb22 := NB336_337.out
    have hnc22 := NB337_336.out
    have hnb23 := NB336_338.out
    have hnc23 := NB338_336.out
    obtain ⟨hcz24_0, hcz24_1⟩ := c2 BK336
    have hfz24_0 := blk_frozen BK336.out 0
    have hfz24_1 := blk_frozen BK336.out 1
    go_wp2_with (first | ((with_reducible refine gate_callee (f := 33) rfl ?_); refine goesL_ (some 14) rfl rfl Try.func33 (by kernel_rfl) rfl #[.agg #[.int .i64 a0_0, .slice A0_1 l0_1.length c0_1]] rfl (by (try simp only [List.map_toArray, List.map_cons, List.map_nil]); first | done | rfl | (simp only [List.length_drop, List.length_take]; rfl)) ?_; (with_reducible refine (impl_IsValidSystem.calls k a0_0 _ _ l0_1 true _ ?side1 ?side2 A8.out).mono ?_); (case side1 => exact mc ((Kd.C_below HR0_1.out HB.out))); (case side2 => exact HC0_1.out); rintro e w25 ⟨rfl, hb⟩; refine ⟨_, rfl, ?_⟩; replace BK336 := bb BK336 hb; replace BK337 := bb BK337 hb; replace BK338 := bb BK338 hb; replace HB := bs HB hb; (try clear hb); have hnb26 := NB337_338.out; have hnc26 := NB338_337.out; obtain ⟨hcz27_0, hcz27_1⟩ := c2 BK337; have hfz27_0 := blk_frozen BK337.out 0; have hfz27_1 := blk_frozen BK337.out 1; obtain ⟨hcz28_0, hcz28_1⟩ := c2 BK336; have hfz28_0 := blk_frozen BK336.out 0; have hfz28_1 := blk_frozen BK336.out 1) | (go_at_call 85; (with_reducible refine (impl_IsValidLin.calls k a1_0 _ _ l1_1 a0_0 false _ ?side1 ?side2 A10.out).mono ?_); (case side1 => exact mc ((Kd.C_below HR1_1.out HB.out))); (case side2 => exact HC1_1.out); rintro e w29 ⟨rfl, hb⟩; replace BK336 := bb BK336 hb; replace BK337 := bb BK337 hb; replace BK338 := bb BK338 hb; replace HB := bs HB hb; (try clear hb)))
    go_meet
    case rel => exact ⟨_, (true), (by first | rfl | (simp; done) | (simp [*]; done)), H', ⟨by first | omega | exact Nat.le_refl _⟩, ⟨by (with_reducible repeat (first | refine blk_drewN ?_ _ | refine blk_drew ?_ | refine blk_alloc ?_ _)); exact BK336.out⟩, ⟨by (with_reducible repeat (first | refine blk_drewN ?_ _ | refine blk_drew ?_ | refine blk_alloc ?_ _)); exact BK337.out⟩, ⟨by (with_reducible repeat (first | refine blk_drewN ?_ _ | refine blk_drew ?_ | refine blk_alloc ?_ _)); exact BK338.out⟩, ⟨ms HB⟩⟩
  ·replace c9 := Bool.eq_false_iff.mpr c9
   subst c9
   have H1 : (impl_CheckFarkas.j0 k true a0_0 l0_1 a1_0 l1_1 a2_0 l2_1) = some r := by rw [if_neg (show ¬ (false = true) by decide)] at H; exact H
   clear H
   have H := H1
   clear H1
   have H' := Aside0.mk H
   clear H
   have hnb30 := NB336_337.out
   have hnc30 := NB337_336.out
   have hnb31 := NB336_338.out
   have hnc31 := NB338_336.out
   obtain ⟨hcz32_0, hcz32_1⟩ := c2 BK336
   have hfz32_0 := blk_frozen BK336.out 0
   have hfz32_1 := blk_frozen BK336.out 1
   go_wp2_with (first | ((with_reducible refine gate_callee (f := 33) rfl ?_); refine goesL_ (some 14) rfl rfl Try.func33 (by kernel_rfl) rfl #[.agg #[.int .i64 a0_0, .slice A0_1 l0_1.length c0_1]] rfl (by (try simp only [List.map_toArray, List.map_cons, List.map_nil]); first | done | rfl | (simp only [List.length_drop, List.length_take]; rfl)) ?_; (with_reducible refine (impl_IsValidSystem.calls k a0_0 _ _ l0_1 false _ ?side1 ?side2 A8.out).mono ?_); (case side1 => exact mc ((Kd.C_below HR0_1.out HB.out))); (case side2 => exact HC0_1.out); rintro e w33 ⟨rfl, hb⟩; refine ⟨_, rfl, ?_⟩; replace BK336 := bb BK336 hb; replace BK337 := bb BK337 hb; replace BK338 := bb BK338 hb; replace HB := bs HB hb; (try clear hb)))
   go_meet
   case rel => exact ⟨_, (true), (by first | rfl | (simp; done) | (simp [*]; done)), H', ⟨by first | omega | exact Nat.le_refl _⟩, ⟨by (with_reducible repeat (first | refine blk_drewN ?_ _ | refine blk_drew ?_ | refine blk_alloc ?_ _)); exact BK336.out⟩, ⟨by (with_reducible repeat (first | refine blk_drewN ?_ _ | refine blk_drew ?_ | refine blk_alloc ?_ _)); exact BK337.out⟩, ⟨by (with_reducible repeat (first | refine blk_drewN ?_ _ | refine blk_drew ?_ | refine blk_alloc ?_ _)); exact BK338.out⟩, ⟨ms HB⟩⟩
 case rest =>
  clear HC4
  try clear c1
  try clear c2
  try clear p2
  try clear c3
  try clear c4
  try clear c9
  try clear c11
  try clear c13
  try clear c14
  try clear c17
  try clear c22
  try clear c23
  try clear c26
  try clear c30
  try clear c31
  try clear c33
  try clear hcz15_0
  try clear hcz15_1
  try clear hcz18_0
  try clear hcz18_1
  try clear hcz19_0
  try clear hcz19_1
  try clear hcz21_0
  try clear hcz21_1
  try clear hcz24_0
  try clear hcz24_1
  try clear hcz27_0
  try clear hcz27_1
  try clear hcz28_0
  try clear hcz28_1
  try clear hcz32_0
  try clear hcz32_1
  try clear hfz15_0
  try clear hfz15_1
  try clear hfz18_0
  try clear hfz18_1
  try clear hfz19_0
  try clear hfz19_1
  try clear hfz21_0
  try clear hfz21_1
  try clear hfz24_0
  try clear hfz24_1
  try clear hfz27_0
  try clear hfz27_1
  try clear hfz28_0
  try clear hfz28_1
  try clear hfz32_0
  try clear hfz32_1
  obtain ⟨kq, x28_3, rfl, HA, HJ3, BK336, BK337, BK338, HB⟩ := hcut
  cases kq with
  | zero => exact absurd HA.out (by simp [impl_CheckFarkas.j0])
  | succ kj3 =>
   have H := HA.out
   clear HA
   simp only [impl_CheckFarkas.j0] at H
   by_cases c34 : x28_3 = true
   ·subst c34
    have H1 : (some false) = some r := by rw [if_pos rfl] at H; exact H
    clear H
    have H := H1
    clear H1
    obtain rfl := Option.some.inj H
    go_wp2
    go_ret
    exact ⟨by first | rfl | (simp [errW_none, errW_some] <;> rfl) | (simp [*, errW_none, errW_some] <;> rfl), ms HB⟩
   ·replace c34 := Bool.eq_false_iff.mpr c34
    subst c34
    have H1 : ((impl_CombineRows.f kj3 a0_0 l0_1 l2_1).bind fun bt342 => ((impl_plus.f kj3 a1_0 l1_1 1).bind fun bt348 => (if bt342.2.2 = true then (impl_CheckFarkas.j1 kj3 (!bt348.2.2) a2_0 l2_1 bt342.1 bt342.2.1 bt348.1 bt348.2.1) else (impl_CheckFarkas.j1 kj3 true a2_0 l2_1 bt342.1 bt342.2.1 bt348.1 bt348.2.1)))) = some r := by rw [if_neg (show ¬ (false = true) by decide)] at H; exact H
    clear H
    have H := H1
    clear H1
    replace H := Option.bind_eq_some_iff.mp H
    obtain ⟨⟨t342, t343, t346⟩, A350, H⟩ := H
    replace H : ((impl_plus.f kj3 a1_0 l1_1 1).bind fun bt348 => (if t346 = true then (impl_CheckFarkas.j1 kj3 (!bt348.2.2) a2_0 l2_1 t342 t343 bt348.1 bt348.2.1) else (impl_CheckFarkas.j1 kj3 true a2_0 l2_1 t342 t343 bt348.1 bt348.2.1))) = some r := H
    have A35 := Aside0.mk A350
    clear A350
    replace H := Option.bind_eq_some_iff.mp H
    obtain ⟨⟨t348, t349, t352⟩, A360, H⟩ := H
    replace H : (if t346 = true then (impl_CheckFarkas.j1 kj3 (!t352) a2_0 l2_1 t342 t343 t348 t349) else (impl_CheckFarkas.j1 kj3 true a2_0 l2_1 t342 t343 t348 t349)) = some r := H
    have A36 := Aside0.mk A360
    clear A360
    have HC37 := Aside0.mk H
    clear H
    have hnb38 := NB336_337.out
    have hnc38 := NB337_336.out
    have hnb39 := NB336_338.out
    have hnc39 := NB338_336.out
    obtain ⟨hcz40_0, hcz40_1⟩ := c2 BK336
    have hfz40_0 := blk_frozen BK336.out 0
    have hfz40_1 := blk_frozen BK336.out 1
    have hnb41 := NB338_337.out
    have hnc41 := NB337_338.out
    obtain ⟨hcz42_0, hcz42_1⟩ := c2 BK338
    have hfz42_0 := blk_frozen BK338.out 0
    have hfz42_1 := blk_frozen BK338.out 1
    go_upto_region 5 with (first | ((with_reducible refine gate_callee (f := 27) rfl ?_); refine goesL_ (some 33) rfl rfl Try.func27 (by kernel_rfl) rfl #[.agg #[.int .i64 a0_0, .slice A0_1 l0_1.length c0_1], .slice A2_1 l2_1.length c2_1] rfl (by (try simp only [List.map_toArray, List.map_cons, List.map_nil]); first | done | rfl | (simp only [List.length_drop, List.length_take]; rfl)) ?_; (with_reducible refine (impl_CombineRows.calls kj3 a0_0 _ _ l0_1 _ _ l2_1 t342 t343 t346 _ ?side1 ?side2 ?side3 ?side4 A35.out).mono ?_); (case side1 => exact mc ((Kd.C_below HR0_1.out HB.out))); (case side2 => exact HC0_1.out); (case side3 => exact mc ((Kd.C_below HR2_1.out HB.out))); (case side4 => exact HC2_1.out); rintro e w43 ⟨v344, rfl, ho0, hb⟩; refine ⟨_, rfl, ?_⟩; have HO345 := Aside0.mk (Kd.R_lower ho0 (below_size (ms HB))); replace BK336 := bb BK336 hb; replace BK337 := bb BK337 hb; replace BK338 := bb BK338 hb; replace HB := bs HB hb; (try clear hb); (try clear ho0)) | ((with_reducible refine gate_dst (N := 7) rfl ?_); refine box_event ?hg (N := 7) ?hd (cs := #[.int .i64 0, .slice none 0 0]) (t := 36) ?hr ?_; (case hd => rfl); (case hg => rfl); (case hr => first | (go_simp; done) | (go_simp; rfl)); intro gb347 hg w44 hbox hb; replace HO345 := rb HO345 hb; have BK347 := Aside0.mk (hbox); have GW347 := gw hg HB; have GE347 := gw hg HB; replace HB := bs HB hb; have NB336_347 := nl hg BK336; have NB347_336 := ng hg BK336; replace BK336 := bb BK336 hb; have NB337_347 := nl hg BK337; have NB347_337 := ng hg BK337; replace BK337 := bb BK337 hb; have NB338_347 := nl hg BK338; have NB347_338 := ng hg BK338; replace BK338 := bb BK338 hb; clear hb hbox hg; have hnb45 := NB347_336.out; have hnc45 := NB336_347.out; have hnb46 := NB347_337.out; have hnc46 := NB337_347.out; have hnb47 := NB347_338.out; have hnc47 := NB338_347.out; obtain ⟨hcz48_0, hcz48_1⟩ := c2 BK347; have hfz48_0 := blk_frozen BK347.out 0; have hfz48_1 := blk_frozen BK347.out 1; obtain ⟨Ao49, co49, eo49⟩ := Kd.R_slice HO345.out; subst eo49; obtain ⟨hcz50_0, hcz50_1⟩ := c2 BK337; have hfz50_0 := blk_frozen BK337.out 0; have hfz50_1 := blk_frozen BK337.out 1) | ((with_reducible refine gate_callee (f := 95) rfl ?_); refine goesL_ (some 38) rfl rfl Try.func95 (by kernel_rfl) rfl #[.agg #[.int .i64 a1_0, .slice A1_1 l1_1.length c1_1], .int .i64 1] rfl (by (try simp only [List.map_toArray, List.map_cons, List.map_nil]); first | done | rfl | (simp only [List.length_drop, List.length_take]; rfl)) ?_; (with_reducible refine (impl_plus.calls kj3 a1_0 _ _ l1_1 1 t348 t349 t352 _ ?side1 ?side2 A36.out).mono ?_); (case side1 => exact Kd.C_below HR1_1.out (ms HB)); (case side2 => exact HC1_1.out); rintro e w51 ⟨v350, rfl, ho0, hb⟩; refine ⟨_, rfl, ?_⟩; have n0_ := Aside0.mk (Kd.R_elder' (by (with_reducible repeat (first | apply Kd.R_alloc | apply Kd.R_drewN | apply Kd.R_drew)); exact (Kd.R_mono (Kd.R_far (p := ⟨gb347, 1, none⟩) (Kd.R_far (p := ⟨gb347, 0, none⟩) (Kd.R_types HO345.out BK347.out (by decide)) (fun _ hk => hk.2) (.int .i64 t342)) (fun _ hk => hk.2) (.slice Ao49 t343.length co49)) (fun _ h_ => h_.1))) (Kd.R_base ho0) hb); have n1_ := Aside0.mk (Kd.R_lower (Kd.R_new' ho0 (Kd.R_lt (by (with_reducible repeat (first | apply Kd.R_alloc | apply Kd.R_drewN | apply Kd.R_drew)); exact (Kd.R_mono (Kd.R_far (p := ⟨gb347, 1, none⟩) (Kd.R_far (p := ⟨gb347, 0, none⟩) (Kd.R_types HO345.out BK347.out (by decide)) (fun _ hk => hk.2) (.int .i64 t342)) (fun _ hk => hk.2) (.slice Ao49 t343.length co49)) (fun _ h_ => h_.1))))) (below_size (ms HB))); have n2_ := bf BK336 hb; have n3_ := bf BK337 hb; have n4_ := bf BK338 hb; have n5_ := Aside0.mk (blk_below (g := gb347) (o := .cells #[.int .i64 t342, .slice Ao49 t343.length co49] 36 (0, 0)) (by (with_reducible repeat (first | refine blk_drewN ?_ _ | refine blk_drew ?_ | refine blk_alloc ?_ _)); refine blk_put (cs := #[.int .i64 t342, .slice none 0 0]) ?_ 1 _ rfl; (with_reducible repeat (first | refine blk_drewN ?_ _ | refine blk_drew ?_ | refine blk_alloc ?_ _)); refine blk_put (cs := #[.int .i64 0, .slice none 0 0]) ?_ 0 _ rfl; (with_reducible repeat (first | refine blk_drewN ?_ _ | refine blk_drew ?_ | refine blk_alloc ?_ _)); exact BK347.out) hb); have n6_ := bs HB hb; clear HO345 BK336 BK337 BK338 BK347 HB; have HO345 := n0_; have HO351 := n1_; have BK336 := n2_; have BK337 := n3_; have BK338 := n4_; have BK347 := n5_; have HB := n6_; clear n0_ n1_ n2_ n3_ n4_ n5_ n6_; (try clear hb); (try clear ho0)) | ((with_reducible refine gate_dst (N := 9) rfl ?_); refine box_event ?hg (N := 9) ?hd (cs := #[.int .i64 0, .slice none 0 0]) (t := 36) ?hr ?_; (case hd => rfl); (case hg => rfl); (case hr => first | (go_simp; done) | (go_simp; rfl)); intro gb353 hg w52 hbox hb; replace HO345 := rb HO345 hb; replace HO351 := rb HO351 hb; have BK353 := Aside0.mk (hbox); have GW353 := gw hg HB; have GE353 := gw hg HB; replace HB := bs HB hb; have NB336_353 := nl hg BK336; have NB353_336 := ng hg BK336; replace BK336 := bb BK336 hb; have NB337_353 := nl hg BK337; have NB353_337 := ng hg BK337; replace BK337 := bb BK337 hb; have NB338_353 := nl hg BK338; have NB353_338 := ng hg BK338; replace BK338 := bb BK338 hb; have NB347_353 := nl hg BK347; have NB353_347 := ng hg BK347; replace BK347 := bb BK347 hb; clear hb hbox hg; have hnb53 := NB353_336.out; have hnc53 := NB336_353.out; have hnb54 := NB353_337.out; have hnc54 := NB337_353.out; have hnb55 := NB353_338.out; have hnc55 := NB338_353.out; have hnb56 := NB353_347.out; have hnc56 := NB347_353.out; obtain ⟨hcz57_0, hcz57_1⟩ := c2 BK353; have hfz57_0 := blk_frozen BK353.out 0; have hfz57_1 := blk_frozen BK353.out 1; obtain ⟨Ao58, co58, eo58⟩ := Kd.R_slice HO351.out; subst eo58))
    (try simp only [Act.put, List.setIfInBounds_toArray, List.set_cons_zero, List.set_cons_succ])
    go_cut [46] (fun v46 wc => ∃ (kq : Nat) (x46_36 : Bool), v46 = .bool x46_36 ∧ Aside0 (impl_CheckFarkas.j1 kq x46_36 a2_0 l2_1 t342 t343 t348 t349 = some r) ∧ Aside0 (kq ≤ kj3) ∧ Aside0 (Kd.R (Kd.int .i64) 3 wc w.heap.size (fun k_ => some k_ ≠ ((.slice Ao58 t349.length co58) : Value).ownBlock) (.slice Ao49 t343.length co49) t343) ∧ Aside0 (Kd.R (Kd.int .i64) 3 wc w.heap.size (fun k_ => some k_ ≠ ((.slice Ao49 t343.length co49) : Value).ownBlock) (.slice Ao58 t349.length co58) t349) ∧ Aside0 (wc.heap[gb336]? = some (.cells #[.int .i64 a0_0, (.slice A0_1 l0_1.length c0_1)] 32 (0, 0))) ∧ Aside0 (wc.heap[gb337]? = some (.cells #[.int .i64 a1_0, (.slice A1_1 l1_1.length c1_1)] 36 (0, 0))) ∧ Aside0 (wc.heap[gb338]? = some (.cells #[.int .i64 a2_0, (.slice A2_1 l2_1.length c2_1)] 65 (0, 0))) ∧ Aside0 (wc.heap[gb347]? = some (.cells #[.int .i64 t342, (.slice Ao49 t343.length co49)] 36 (0, 0))) ∧ Aside0 (wc.heap[gb353]? = some (.cells #[.int .i64 t348, (.slice Ao58 t349.length co58)] 36 (0, 0))) ∧ Aside0 (Below w.heap.size w wc))
    case first =>
     have H := HC37.out
     clear HC37
     by_cases c59 : t346 = true
     ·subst c59
      have H1 : (impl_CheckFarkas.j1 kj3 (!t352) a2_0 l2_1 t342 t343 t348 t349) = some r := by rw [if_pos rfl] at H; exact H
      clear H
      have H := H1
      clear H1
      have H' := Aside0.mk H
      clear H
      go_wp2
      go_meet
      case rel => exact ⟨_, (!t352), (by first | rfl | (simp; done) | (simp [*]; done)), H', ⟨by have := HJ3.out; first | omega | exact Nat.le_refl _⟩, ⟨by (with_reducible repeat (first | apply Kd.R_alloc | apply Kd.R_drewN | apply Kd.R_drew)); exact Kd.R_mono (Kd.R_far (p := ⟨gb353, 1, none⟩) (Kd.R_far (p := ⟨gb353, 0, none⟩) (Kd.R_types HO345.out BK353.out (by decide)) (fun _ hk => hk.2) (.int .i64 t348)) (fun _ hk => hk.2) (.slice Ao58 t349.length co58)) (fun _ hk => hk.1.2)⟩, ⟨by (with_reducible repeat (first | apply Kd.R_alloc | apply Kd.R_drewN | apply Kd.R_drew)); exact Kd.R_mono (Kd.R_far (p := ⟨gb353, 1, none⟩) (Kd.R_far (p := ⟨gb353, 0, none⟩) (Kd.R_types HO351.out BK353.out (by decide)) (fun _ hk => hk.2) (.int .i64 t348)) (fun _ hk => hk.2) (.slice Ao58 t349.length co58)) (fun _ hk => hk.1.2)⟩, ⟨by (with_reducible repeat (first | refine blk_drewN ?_ _ | refine blk_drew ?_ | refine blk_alloc ?_ _)); refine blk_far ?_ NB336_353.out _; (with_reducible repeat (first | refine blk_drewN ?_ _ | refine blk_drew ?_ | refine blk_alloc ?_ _)); refine blk_far ?_ NB336_353.out _; (with_reducible repeat (first | refine blk_drewN ?_ _ | refine blk_drew ?_ | refine blk_alloc ?_ _)); exact BK336.out⟩, ⟨by (with_reducible repeat (first | refine blk_drewN ?_ _ | refine blk_drew ?_ | refine blk_alloc ?_ _)); refine blk_far ?_ NB337_353.out _; (with_reducible repeat (first | refine blk_drewN ?_ _ | refine blk_drew ?_ | refine blk_alloc ?_ _)); refine blk_far ?_ NB337_353.out _; (with_reducible repeat (first | refine blk_drewN ?_ _ | refine blk_drew ?_ | refine blk_alloc ?_ _)); exact BK337.out⟩, ⟨by (with_reducible repeat (first | refine blk_drewN ?_ _ | refine blk_drew ?_ | refine blk_alloc ?_ _)); refine blk_far ?_ NB338_353.out _; (with_reducible repeat (first | refine blk_drewN ?_ _ | refine blk_drew ?_ | refine blk_alloc ?_ _)); refine blk_far ?_ NB338_353.out _; (with_reducible repeat (first | refine blk_drewN ?_ _ | refine blk_drew ?_ | refine blk_alloc ?_ _)); exact BK338.out⟩, ⟨by (with_reducible repeat (first | refine blk_drewN ?_ _ | refine blk_drew ?_ | refine blk_alloc ?_ _)); refine blk_far ?_ NB347_353.out _; (with_reducible repeat (first | refine blk_drewN ?_ _ | refine blk_drew ?_ | refine blk_alloc ?_ _)); refine blk_far ?_ NB347_353.out _; (with_reducible repeat (first | refine blk_drewN ?_ _ | refine blk_drew ?_ | refine blk_alloc ?_ _)); exact BK347.out⟩, ⟨by (with_reducible repeat (first | refine blk_drewN ?_ _ | refine blk_drew ?_ | refine blk_alloc ?_ _)); refine blk_put (cs := #[.int .i64 t348, .slice none 0 0]) ?_ 1 _ rfl; (with_reducible repeat (first | refine blk_drewN ?_ _ | refine blk_drew ?_ | refine blk_alloc ?_ _)); refine blk_put (cs := #[.int .i64 0, .slice none 0 0]) ?_ 0 _ rfl; (with_reducible repeat (first | refine blk_drewN ?_ _ | refine blk_drew ?_ | refine blk_alloc ?_ _)); exact BK353.out⟩, ⟨ms HB⟩⟩
     ·replace c59 := Bool.eq_false_iff.mpr c59
      subst c59
      have H1 : (impl_CheckFarkas.j1 kj3 true a2_0 l2_1 t342 t343 t348 t349) = some r := by rw [if_neg (show ¬ (false = true) by decide)] at H; exact H
      clear H
      have H := H1
      clear H1
      have H' := Aside0.mk H
      clear H
      go_wp2
      go_meet
      case rel => exact ⟨_, (true), (by first | rfl | (simp; done) | (simp [*]; done)), H', ⟨by have := HJ3.out; first | omega | exact Nat.le_refl _⟩, ⟨by (with_reducible repeat (first | apply Kd.R_alloc | apply Kd.R_drewN | apply Kd.R_drew)); exact Kd.R_mono (Kd.R_far (p := ⟨gb353, 1, none⟩) (Kd.R_far (p := ⟨gb353, 0, none⟩) (Kd.R_types HO345.out BK353.out (by decide)) (fun _ hk => hk.2) (.int .i64 t348)) (fun _ hk => hk.2) (.slice Ao58 t349.length co58)) (fun _ hk => hk.1.2)⟩, ⟨by (with_reducible repeat (first | apply Kd.R_alloc | apply Kd.R_drewN | apply Kd.R_drew)); exact Kd.R_mono (Kd.R_far (p := ⟨gb353, 1, none⟩) (Kd.R_far (p := ⟨gb353, 0, none⟩) (Kd.R_types HO351.out BK353.out (by decide)) (fun _ hk => hk.2) (.int .i64 t348)) (fun _ hk => hk.2) (.slice Ao58 t349.length co58)) (fun _ hk => hk.1.2)⟩, ⟨by (with_reducible repeat (first | refine blk_drewN ?_ _ | refine blk_drew ?_ | refine blk_alloc ?_ _)); refine blk_far ?_ NB336_353.out _; (with_reducible repeat (first | refine blk_drewN ?_ _ | refine blk_drew ?_ | refine blk_alloc ?_ _)); refine blk_far ?_ NB336_353.out _; (with_reducible repeat (first | refine blk_drewN ?_ _ | refine blk_drew ?_ | refine blk_alloc ?_ _)); exact BK336.out⟩, ⟨by (with_reducible repeat (first | refine blk_drewN ?_ _ | refine blk_drew ?_ | refine blk_alloc ?_ _)); refine blk_far ?_ NB337_353.out _; (with_reducible repeat (first | refine blk_drewN ?_ _ | refine blk_drew ?_ | refine blk_alloc ?_ _)); refine blk_far ?_ NB337_353.out _; (with_reducible repeat (first | refine blk_drewN ?_ _ | refine blk_drew ?_ | refine blk_alloc ?_ _)); exact BK337.out⟩, ⟨by (with_reducible repeat (first | refine blk_drewN ?_ _ | refine blk_drew ?_ | refine blk_alloc ?_ _)); refine blk_far ?_ NB338_353.out _; (with_reducible repeat (first | refine blk_drewN ?_ _ | refine blk_drew ?_ | refine blk_alloc ?_ _)); refine blk_far ?_ NB338_353.out _; (with_reducible repeat (first | refine blk_drewN ?_ _ | refine blk_drew ?_ | refine blk_alloc ?_ _)); exact BK338.out⟩, ⟨by (with_reducible repeat (first | refine blk_drewN ?_ _ | refine blk_drew ?_ | refine blk_alloc ?_ _)); refine blk_far ?_ NB347_353.out _; (with_reducible repeat (first | refine blk_drewN ?_ _ | refine blk_drew ?_ | refine blk_alloc ?_ _)); refine blk_far ?_ NB347_353.out _; (with_reducible repeat (first | refine blk_drewN ?_ _ | refine blk_drew ?_ | refine blk_alloc ?_ _)); exact BK347.out⟩, ⟨by (with_reducible repeat (first | refine blk_drewN ?_ _ | refine blk_drew ?_ | refine blk_alloc ?_ _)); refine blk_put (cs := #[.int .i64 t348, .slice none 0 0]) ?_ 1 _ rfl; (with_reducible repeat (first | refine blk_drewN ?_ _ | refine blk_drew ?_ | refine blk_alloc ?_ _)); refine blk_put (cs := #[.int .i64 0, .slice none 0 0]) ?_ 0 _ rfl; (with_reducible repeat (first | refine blk_drewN ?_ _ | refine blk_drew ?_ | refine blk_alloc ?_ _)); exact BK353.out⟩, ⟨ms HB⟩⟩
    case rest =>
     clear HC37
     try clear c1
     try clear c2
     try clear p2
     try clear c3
     try clear c4
     try clear c5
     try clear c9
     try clear c11
     try clear c13
     try clear c14
     try clear c17
     try clear c22
     try clear c23
     try clear c26
     try clear c27
     try clear c30
     try clear c31
     try clear c33
     try clear c34
     try clear c38
     try clear c39
     try clear c41
     try clear c45
     try clear c46
     try clear c47
     try clear c48
     try clear c53
     try clear c54
     try clear c55
     try clear c56
     try clear c59
     try clear hcz15_0
     try clear hcz15_1
     try clear hcz18_0
     try clear hcz18_1
     try clear hcz19_0
     try clear hcz19_1
     try clear hcz21_0
     try clear hcz21_1
     try clear hcz24_0
     try clear hcz24_1
     try clear hcz27_0
     try clear hcz27_1
     try clear hcz28_0
     try clear hcz28_1
     try clear hcz32_0
     try clear hcz32_1
     try clear hcz40_0
     try clear hcz40_1
     try clear hcz42_0
     try clear hcz42_1
     try clear hcz48_0
     try clear hcz48_1
     try clear hcz50_0
     try clear hcz50_1
     try clear hcz57_0
     try clear hcz57_1
     try clear hfz15_0
     try clear hfz15_1
     try clear hfz18_0
     try clear hfz18_1
     try clear hfz19_0
     try clear hfz19_1
     try clear hfz21_0
     try clear hfz21_1
     try clear hfz24_0
     try clear hfz24_1
     try clear hfz27_0
     try clear hfz27_1
     try clear hfz28_0
     try clear hfz28_1
     try clear hfz32_0
     try clear hfz32_1
     try clear hfz40_0
     try clear hfz40_1
     try clear hfz42_0
     try clear hfz42_1
     try clear hfz48_0
     try clear hfz48_1
     try clear hfz50_0
     try clear hfz50_1
     try clear hfz57_0
     try clear hfz57_1
     try clear p2
     obtain ⟨kq, x46_36, rfl, HA, HJ36, HO_348001, HO_354001, BK336, BK337, BK338, BK347, BK353, HB⟩ := hcut
     cases kq with
     | zero => exact absurd HA.out (by simp [impl_CheckFarkas.j1])
     | succ kj36 =>
      have H := HA.out
      clear HA
      simp only [impl_CheckFarkas.j1] at H
      by_cases c60 : x46_36 = true
      ·subst c60
       have H1 : (some false) = some r := by rw [if_pos rfl] at H; exact H
       clear H
       have H := H1
       clear H1
       obtain rfl := Option.some.inj H
       go_wp2
       go_ret
       exact ⟨by first | rfl | (simp [errW_none, errW_some] <;> rfl) | (simp [*, errW_none, errW_some] <;> rfl), ms HB⟩
      ·replace c60 := Bool.eq_false_iff.mpr c60
       subst c60
       have H1 : ((impl_AddScaled.f kj36 t342 t343 (wrap64 (-a2_0)) t348 t349).bind fun bt354 => (if bt354.2.2 = true then ((impl_IsConstant.f kj36 bt354.1 bt354.2.1).bind fun t360 => (if t360 = true then (some (decide (bt354.1 < 0))) else (some false))) else (some false))) = some r := by rw [if_neg (show ¬ (false = true) by decide)] at H; exact H
       clear H
       have H := H1
       clear H1
       replace H := Option.bind_eq_some_iff.mp H
       obtain ⟨⟨t354, t355, t358⟩, A610, H⟩ := H
       replace H : (if t358 = true then ((impl_IsConstant.f kj36 t354 t355).bind fun t360 => (if t360 = true then (some (decide (t354 < 0))) else (some false))) else (some false)) = some r := H
       have A61 := Aside0.mk A610
       clear A610
       by_cases c62 : t358 = true
       ·subst c62
        have H1 : ((impl_IsConstant.f kj36 t354 t355).bind fun t360 => (if t360 = true then (some (decide (t354 < 0))) else (some false))) = some r := by rw [if_pos rfl] at H; exact H
        clear H
        have H := H1
        clear H1
        replace H := Option.bind_eq_some_iff.mp H
        obtain ⟨t360, A630, H⟩ := H
        replace H : (if t360 = true then (some (decide (t354 < 0))) else (some false)) = some r := H
        have A63 := Aside0.mk A630
        clear A630
        by_cases c64 : t360 = true
        ·subst c64
         have H1 : (some (decide (t354 < 0))) = some r := by rw [if_pos rfl] at H; exact H
         clear H
         have H := H1
         clear H1
         obtain rfl := Option.some.inj H
         have hnb65 := NB347_336.out
         have hnc65 := NB336_347.out
         have hnb66 := NB347_337.out
         have hnc66 := NB337_347.out
         have hnb67 := NB347_338.out
         have hnc67 := NB338_347.out
         have hnb68 := NB347_353.out
         have hnc68 := NB353_347.out
         obtain ⟨hcz69_0, hcz69_1⟩ := c2 BK347
         have hfz69_0 := blk_frozen BK347.out 0
         have hfz69_1 := blk_frozen BK347.out 1
         have hnb70 := NB338_336.out
         have hnc70 := NB336_338.out
         have hnb71 := NB338_337.out
         have hnc71 := NB337_338.out
         have hnb72 := NB338_353.out
         have hnc72 := NB353_338.out
         obtain ⟨hcz73_0, hcz73_1⟩ := c2 BK338
         have hfz73_0 := blk_frozen BK338.out 0
         have hfz73_1 := blk_frozen BK338.out 1
         have hnb74 := NB353_336.out
         have hnc74 := NB336_353.out
         have hnb75 := NB353_337.out
         have hnc75 := NB337_353.out
         obtain ⟨hcz76_0, hcz76_1⟩ := c2 BK353
         have hfz76_0 := blk_frozen BK353.out 0
         have hfz76_1 := blk_frozen BK353.out 1
         go_wp2_with (first | ((with_reducible refine gate_callee (f := 75) rfl ?_); refine goesL_ (some 53) rfl rfl Try.func75 (by kernel_rfl) rfl #[.agg #[.int .i64 t342, .slice Ao49 t343.length co49], .int .i64 (wrap64 (-a2_0)), .agg #[.int .i64 t348, .slice Ao58 t349.length co58]] rfl (by (try simp only [List.map_toArray, List.map_cons, List.map_nil]); first | done | rfl | (simp only [List.length_drop, List.length_take]; rfl)) ?_; (with_reducible refine (impl_AddScaled.calls kj36 t342 _ _ t343 (wrap64 (-a2_0)) t348 _ _ t349 t354 t355 true _ ?side1 ?side2 ?side3 ?side4 A61.out).mono ?_); (case side1 => exact mc ((Kd.R_reads' HO_348001.out).2.2)); (case side2 => exact (Kd.R_reads' HO_348001.out).2.1); (case side3 => exact mc ((Kd.R_reads' HO_354001.out).2.2)); (case side4 => exact (Kd.R_reads' HO_354001.out).2.1); rintro e w77 ⟨v356, rfl, ho0, hb⟩; refine ⟨_, rfl, ?_⟩; have HO357 := Aside0.mk (Kd.R_lower (Kd.R_new' (Kd.R_new' ho0 (Kd.R_lt (mr HO_348001))) (Kd.R_lt (mr HO_354001))) (below_size (ms HB))); replace HO_348001 := rl HO_348001 ho0 hb; replace HO_354001 := rl HO_354001 ho0 hb; replace BK336 := bb BK336 hb; replace BK337 := bb BK337 hb; replace BK338 := bb BK338 hb; replace BK347 := bb BK347 hb; replace BK353 := bb BK353 hb; replace HB := bs HB hb; (try clear hb); (try clear ho0)) | ((with_reducible refine gate_dst (N := 11) rfl ?_); refine box_event ?hg (N := 11) ?hd (cs := #[.int .i64 0, .slice none 0 0]) (t := 36) ?hr ?_; (case hd => rfl); (case hg => rfl); (case hr => first | (go_simp; done) | (go_simp; rfl)); intro gb359 hg w78 hbox hb; replace HO_348001 := rb HO_348001 hb; replace HO_354001 := rb HO_354001 hb; replace HO357 := rb HO357 hb; have BK359 := Aside0.mk (hbox); have GW359 := gw hg HB; have GE359 := gw hg HB; replace HB := bs HB hb; have NB336_359 := nl hg BK336; have NB359_336 := ng hg BK336; replace BK336 := bb BK336 hb; have NB337_359 := nl hg BK337; have NB359_337 := ng hg BK337; replace BK337 := bb BK337 hb; have NB338_359 := nl hg BK338; have NB359_338 := ng hg BK338; replace BK338 := bb BK338 hb; have NB347_359 := nl hg BK347; have NB359_347 := ng hg BK347; replace BK347 := bb BK347 hb; have NB353_359 := nl hg BK353; have NB359_353 := ng hg BK353; replace BK353 := bb BK353 hb; clear hb hbox hg; have hnb79 := NB359_336.out; have hnc79 := NB336_359.out; have hnb80 := NB359_337.out; have hnc80 := NB337_359.out; have hnb81 := NB359_338.out; have hnc81 := NB338_359.out; have hnb82 := NB359_347.out; have hnc82 := NB347_359.out; have hnb83 := NB359_353.out; have hnc83 := NB353_359.out; obtain ⟨hcz84_0, hcz84_1⟩ := c2 BK359; have hfz84_0 := blk_frozen BK359.out 0; have hfz84_1 := blk_frozen BK359.out 1; obtain ⟨Ao85, co85, eo85⟩ := Kd.R_slice HO357.out; subst eo85) | (go_at_call 42; (with_reducible refine (impl_IsConstant.calls kj36 t354 _ _ t355 true _ ?side1 ?side2 A63.out).mono ?_); (case side1 => refine (Kd.R_reads' (e := 3) (base := w.heap.size) (ok := fun k_ => ((True ∧ some k_ ≠ (.slice Ao49 t343.length co49 : Value).ownBlock) ∧ some k_ ≠ (.slice Ao58 t349.length co58 : Value).ownBlock)) (n := t355.length) (c := co85) ?_).2.2; exact (by (with_reducible repeat (first | apply Kd.R_alloc | apply Kd.R_drewN | apply Kd.R_drew)); exact (Kd.R_mono (Kd.R_far (p := ⟨gb359, 1, none⟩) (Kd.R_far (p := ⟨gb359, 0, none⟩) (Kd.R_types HO357.out BK359.out (by decide)) (fun _ hk => hk.2) (.int .i64 t354)) (fun _ hk => hk.2) (.slice Ao85 t355.length co85)) (fun _ h_ => h_.1)))); (case side2 => exact (Kd.R_reads' HO357.out).2.1); rintro e w86 ⟨rfl, hb⟩; have n0_ := Aside0.mk (Kd.R_below (by (with_reducible repeat (first | apply Kd.R_alloc | apply Kd.R_drewN | apply Kd.R_drew)); exact (Kd.R_mono (Kd.R_far (p := ⟨gb359, 1, none⟩) (Kd.R_far (p := ⟨gb359, 0, none⟩) (Kd.R_types HO_348001.out BK359.out (by decide)) (fun _ hk => hk.2) (.int .i64 t354)) (fun _ hk => hk.2) (.slice Ao85 t355.length co85)) (fun _ h_ => h_.1))) hb); have n1_ := Aside0.mk (Kd.R_below (by (with_reducible repeat (first | apply Kd.R_alloc | apply Kd.R_drewN | apply Kd.R_drew)); exact (Kd.R_mono (Kd.R_far (p := ⟨gb359, 1, none⟩) (Kd.R_far (p := ⟨gb359, 0, none⟩) (Kd.R_types HO_354001.out BK359.out (by decide)) (fun _ hk => hk.2) (.int .i64 t354)) (fun _ hk => hk.2) (.slice Ao85 t355.length co85)) (fun _ h_ => h_.1))) hb); have n2_ := Aside0.mk (Kd.R_below (by (with_reducible repeat (first | apply Kd.R_alloc | apply Kd.R_drewN | apply Kd.R_drew)); exact (Kd.R_mono (Kd.R_far (p := ⟨gb359, 1, none⟩) (Kd.R_far (p := ⟨gb359, 0, none⟩) (Kd.R_types HO357.out BK359.out (by decide)) (fun _ hk => hk.2) (.int .i64 t354)) (fun _ hk => hk.2) (.slice Ao85 t355.length co85)) (fun _ h_ => h_.1))) hb); have n3_ := bf BK336 hb; have n4_ := bf BK337 hb; have n5_ := bf BK338 hb; have n6_ := bf BK347 hb; have n7_ := bf BK353 hb; have n8_ := Aside0.mk (blk_below (g := gb359) (o := .cells #[.int .i64 t354, .slice Ao85 t355.length co85] 36 (0, 0)) (by (with_reducible repeat (first | refine blk_drewN ?_ _ | refine blk_drew ?_ | refine blk_alloc ?_ _)); refine blk_put (cs := #[.int .i64 t354, .slice none 0 0]) ?_ 1 _ rfl; (with_reducible repeat (first | refine blk_drewN ?_ _ | refine blk_drew ?_ | refine blk_alloc ?_ _)); refine blk_put (cs := #[.int .i64 0, .slice none 0 0]) ?_ 0 _ rfl; (with_reducible repeat (first | refine blk_drewN ?_ _ | refine blk_drew ?_ | refine blk_alloc ?_ _)); exact BK359.out) hb); have n9_ := bs HB hb; clear HO_348001 HO_354001 HO357 BK336 BK337 BK338 BK347 BK353 BK359 HB; have HO_348001 := n0_; have HO_354001 := n1_; have HO357 := n2_; have BK336 := n3_; have BK337 := n4_; have BK338 := n5_; have BK347 := n6_; have BK353 := n7_; have BK359 := n8_; have HB := n9_; clear n0_ n1_ n2_ n3_ n4_ n5_ n6_ n7_ n8_ n9_; (try clear hb); obtain ⟨hcz87_0, hcz87_1⟩ := c2 BK359; have hfz87_0 := blk_frozen BK359.out 0; have hfz87_1 := blk_frozen BK359.out 1))
         go_ret
         exact ⟨by first | rfl | (simp [errW_none, errW_some] <;> rfl) | (simp [*, errW_none, errW_some] <;> rfl), ms HB⟩
        ·replace c64 := Bool.eq_false_iff.mpr c64
         subst c64
         have H1 : (some false) = some r := by rw [if_neg (show ¬ (false = true) by decide)] at H; exact H
         clear H
         have H := H1
         clear H1
         obtain rfl := Option.some.inj H
         have hnb88 := NB347_336.out
         have hnc88 := NB336_347.out
         have hnb89 := NB347_337.out
         have hnc89 := NB337_347.out
         have hnb90 := NB347_338.out
         have hnc90 := NB338_347.out
         have hnb91 := NB347_353.out
         have hnc91 := NB353_347.out
         obtain ⟨hcz92_0, hcz92_1⟩ := c2 BK347
         have hfz92_0 := blk_frozen BK347.out 0
         have hfz92_1 := blk_frozen BK347.out 1
         have hnb93 := NB338_336.out
         have hnc93 := NB336_338.out
         have hnb94 := NB338_337.out
         have hnc94 := NB337_338.out
         have hnb95 := NB338_353.out
         have hnc95 := NB353_338.out
         obtain ⟨hcz96_0, hcz96_1⟩ := c2 BK338
         have hfz96_0 := blk_frozen BK338.out 0
         have hfz96_1 := blk_frozen BK338.out 1
         have hnb97 := NB353_336.out
         have hnc97 := NB336_353.out
         have hnb98 := NB353_337.out
         have hnc98 := NB337_353.out
         obtain ⟨hcz99_0, hcz99_1⟩ := c2 BK353
         have hfz99_0 := blk_frozen BK353.out 0
         have hfz99_1 := blk_frozen BK353.out 1
         go_wp2_with (first | ((with_reducible refine gate_callee (f := 75) rfl ?_); refine goesL_ (some 53) rfl rfl Try.func75 (by kernel_rfl) rfl #[.agg #[.int .i64 t342, .slice Ao49 t343.length co49], .int .i64 (wrap64 (-a2_0)), .agg #[.int .i64 t348, .slice Ao58 t349.length co58]] rfl (by (try simp only [List.map_toArray, List.map_cons, List.map_nil]); first | done | rfl | (simp only [List.length_drop, List.length_take]; rfl)) ?_; (with_reducible refine (impl_AddScaled.calls kj36 t342 _ _ t343 (wrap64 (-a2_0)) t348 _ _ t349 t354 t355 true _ ?side1 ?side2 ?side3 ?side4 A61.out).mono ?_); (case side1 => exact mc ((Kd.R_reads' HO_348001.out).2.2)); (case side2 => exact (Kd.R_reads' HO_348001.out).2.1); (case side3 => exact mc ((Kd.R_reads' HO_354001.out).2.2)); (case side4 => exact (Kd.R_reads' HO_354001.out).2.1); rintro e w100 ⟨v356, rfl, ho0, hb⟩; refine ⟨_, rfl, ?_⟩; have HO357 := Aside0.mk (Kd.R_lower (Kd.R_new' (Kd.R_new' ho0 (Kd.R_lt (mr HO_348001))) (Kd.R_lt (mr HO_354001))) (below_size (ms HB))); replace HO_348001 := rl HO_348001 ho0 hb; replace HO_354001 := rl HO_354001 ho0 hb; replace BK336 := bb BK336 hb; replace BK337 := bb BK337 hb; replace BK338 := bb BK338 hb; replace BK347 := bb BK347 hb; replace BK353 := bb BK353 hb; replace HB := bs HB hb; (try clear hb); (try clear ho0)) | ((with_reducible refine gate_dst (N := 11) rfl ?_); refine box_event ?hg (N := 11) ?hd (cs := #[.int .i64 0, .slice none 0 0]) (t := 36) ?hr ?_; (case hd => rfl); (case hg => rfl); (case hr => first | (go_simp; done) | (go_simp; rfl)); intro gb359 hg w101 hbox hb; replace HO_348001 := rb HO_348001 hb; replace HO_354001 := rb HO_354001 hb; replace HO357 := rb HO357 hb; have BK359 := Aside0.mk (hbox); have GW359 := gw hg HB; have GE359 := gw hg HB; replace HB := bs HB hb; have NB336_359 := nl hg BK336; have NB359_336 := ng hg BK336; replace BK336 := bb BK336 hb; have NB337_359 := nl hg BK337; have NB359_337 := ng hg BK337; replace BK337 := bb BK337 hb; have NB338_359 := nl hg BK338; have NB359_338 := ng hg BK338; replace BK338 := bb BK338 hb; have NB347_359 := nl hg BK347; have NB359_347 := ng hg BK347; replace BK347 := bb BK347 hb; have NB353_359 := nl hg BK353; have NB359_353 := ng hg BK353; replace BK353 := bb BK353 hb; clear hb hbox hg; have hnb102 := NB359_336.out; have hnc102 := NB336_359.out; have hnb103 := NB359_337.out; have hnc103 := NB337_359.out; have hnb104 := NB359_338.out; have hnc104 := NB338_359.out; have hnb105 := NB359_347.out; have hnc105 := NB347_359.out; have hnb106 := NB359_353.out; have hnc106 := NB353_359.out; obtain ⟨hcz107_0, hcz107_1⟩ := c2 BK359; have hfz107_0 := blk_frozen BK359.out 0; have hfz107_1 := blk_frozen BK359.out 1; obtain ⟨Ao108, co108, eo108⟩ := Kd.R_slice HO357.out; subst eo108) | (go_at_call 42; (with_reducible refine (impl_IsConstant.calls kj36 t354 _ _ t355 false _ ?side1 ?side2 A63.out).mono ?_); (case side1 => refine (Kd.R_reads' (e := 3) (base := w.heap.size) (ok := fun k_ => ((True ∧ some k_ ≠ (.slice Ao49 t343.length co49 : Value).ownBlock) ∧ some k_ ≠ (.slice Ao58 t349.length co58 : Value).ownBlock)) (n := t355.length) (c := co108) ?_).2.2; exact (by (with_reducible repeat (first | apply Kd.R_alloc | apply Kd.R_drewN | apply Kd.R_drew)); exact (Kd.R_mono (Kd.R_far (p := ⟨gb359, 1, none⟩) (Kd.R_far (p := ⟨gb359, 0, none⟩) (Kd.R_types HO357.out BK359.out (by decide)) (fun _ hk => hk.2) (.int .i64 t354)) (fun _ hk => hk.2) (.slice Ao108 t355.length co108)) (fun _ h_ => h_.1)))); (case side2 => exact (Kd.R_reads' HO357.out).2.1); rintro e w109 ⟨rfl, hb⟩; have n0_ := Aside0.mk (Kd.R_below (by (with_reducible repeat (first | apply Kd.R_alloc | apply Kd.R_drewN | apply Kd.R_drew)); exact (Kd.R_mono (Kd.R_far (p := ⟨gb359, 1, none⟩) (Kd.R_far (p := ⟨gb359, 0, none⟩) (Kd.R_types HO_348001.out BK359.out (by decide)) (fun _ hk => hk.2) (.int .i64 t354)) (fun _ hk => hk.2) (.slice Ao108 t355.length co108)) (fun _ h_ => h_.1))) hb); have n1_ := Aside0.mk (Kd.R_below (by (with_reducible repeat (first | apply Kd.R_alloc | apply Kd.R_drewN | apply Kd.R_drew)); exact (Kd.R_mono (Kd.R_far (p := ⟨gb359, 1, none⟩) (Kd.R_far (p := ⟨gb359, 0, none⟩) (Kd.R_types HO_354001.out BK359.out (by decide)) (fun _ hk => hk.2) (.int .i64 t354)) (fun _ hk => hk.2) (.slice Ao108 t355.length co108)) (fun _ h_ => h_.1))) hb); have n2_ := Aside0.mk (Kd.R_below (by (with_reducible repeat (first | apply Kd.R_alloc | apply Kd.R_drewN | apply Kd.R_drew)); exact (Kd.R_mono (Kd.R_far (p := ⟨gb359, 1, none⟩) (Kd.R_far (p := ⟨gb359, 0, none⟩) (Kd.R_types HO357.out BK359.out (by decide)) (fun _ hk => hk.2) (.int .i64 t354)) (fun _ hk => hk.2) (.slice Ao108 t355.length co108)) (fun _ h_ => h_.1))) hb); have n3_ := bf BK336 hb; have n4_ := bf BK337 hb; have n5_ := bf BK338 hb; have n6_ := bf BK347 hb; have n7_ := bf BK353 hb; have n8_ := Aside0.mk (blk_below (g := gb359) (o := .cells #[.int .i64 t354, .slice Ao108 t355.length co108] 36 (0, 0)) (by (with_reducible repeat (first | refine blk_drewN ?_ _ | refine blk_drew ?_ | refine blk_alloc ?_ _)); refine blk_put (cs := #[.int .i64 t354, .slice none 0 0]) ?_ 1 _ rfl; (with_reducible repeat (first | refine blk_drewN ?_ _ | refine blk_drew ?_ | refine blk_alloc ?_ _)); refine blk_put (cs := #[.int .i64 0, .slice none 0 0]) ?_ 0 _ rfl; (with_reducible repeat (first | refine blk_drewN ?_ _ | refine blk_drew ?_ | refine blk_alloc ?_ _)); exact BK359.out) hb); have n9_ := bs HB hb; clear HO_348001 HO_354001 HO357 BK336 BK337 BK338 BK347 BK353 BK359 HB; have HO_348001 := n0_; have HO_354001 := n1_; have HO357 := n2_; have BK336 := n3_; have BK337 := n4_; have BK338 := n5_; have BK347 := n6_; have BK353 := n7_; have BK359 := n8_; have HB := n9_; clear n0_ n1_ n2_ n3_ n4_ n5_ n6_ n7_ n8_ n9_; (try clear hb)))
         go_ret
         exact ⟨by first | rfl | (simp [errW_none, errW_some] <;> rfl) | (simp [*, errW_none, errW_some] <;> rfl), ms HB⟩
       ·replace c62 := Bool.eq_false_iff.mpr c62
        subst c62
        have H1 : (some false) = some r := by rw [if_neg (show ¬ (false = true) by decide)] at H; exact H
        clear H
        have H := H1
        clear H1
        obtain rfl := Option.some.inj H
        have hnb110 := NB347_336.out
        have hnc110 := NB336_347.out
        have hnb111 := NB347_337.out
        have hnc111 := NB337_347.out
        have hnb112 := NB347_338.out
        have hnc112 := NB338_347.out
        have hnb113 := NB347_353.out
        have hnc113 := NB353_347.out
        obtain ⟨hcz114_0, hcz114_1⟩ := c2 BK347
        have hfz114_0 := blk_frozen BK347.out 0
        have hfz114_1 := blk_frozen BK347.out 1
        have hnb115 := NB338_336.out
        have hnc115 := NB336_338.out
        have hnb116 := NB338_337.out
        have hnc116 := NB337_338.out
        have hnb117 := NB338_353.out
        have hnc117 := NB353_338.out
        obtain ⟨hcz118_0, hcz118_1⟩ := c2 BK338
        have hfz118_0 := blk_frozen BK338.out 0
        have hfz118_1 := blk_frozen BK338.out 1
        have hnb119 := NB353_336.out
        have hnc119 := NB336_353.out
        have hnb120 := NB353_337.out
        have hnc120 := NB337_353.out
        obtain ⟨hcz121_0, hcz121_1⟩ := c2 BK353
        have hfz121_0 := blk_frozen BK353.out 0
        have hfz121_1 := blk_frozen BK353.out 1
        go_wp2_with (first | ((with_reducible refine gate_callee (f := 75) rfl ?_); refine goesL_ (some 53) rfl rfl Try.func75 (by kernel_rfl) rfl #[.agg #[.int .i64 t342, .slice Ao49 t343.length co49], .int .i64 (wrap64 (-a2_0)), .agg #[.int .i64 t348, .slice Ao58 t349.length co58]] rfl (by (try simp only [List.map_toArray, List.map_cons, List.map_nil]); first | done | rfl | (simp only [List.length_drop, List.length_take]; rfl)) ?_; (with_reducible refine (impl_AddScaled.calls kj36 t342 _ _ t343 (wrap64 (-a2_0)) t348 _ _ t349 t354 t355 false _ ?side1 ?side2 ?side3 ?side4 A61.out).mono ?_); (case side1 => exact mc ((Kd.R_reads' HO_348001.out).2.2)); (case side2 => exact (Kd.R_reads' HO_348001.out).2.1); (case side3 => exact mc ((Kd.R_reads' HO_354001.out).2.2)); (case side4 => exact (Kd.R_reads' HO_354001.out).2.1); rintro e w122 ⟨v356, rfl, ho0, hb⟩; refine ⟨_, rfl, ?_⟩; have HO357 := Aside0.mk (Kd.R_lower (Kd.R_new' (Kd.R_new' ho0 (Kd.R_lt (mr HO_348001))) (Kd.R_lt (mr HO_354001))) (below_size (ms HB))); replace HO_348001 := rl HO_348001 ho0 hb; replace HO_354001 := rl HO_354001 ho0 hb; replace BK336 := bb BK336 hb; replace BK337 := bb BK337 hb; replace BK338 := bb BK338 hb; replace BK347 := bb BK347 hb; replace BK353 := bb BK353 hb; replace HB := bs HB hb; (try clear hb); (try clear ho0)) | ((with_reducible refine gate_dst (N := 11) rfl ?_); refine box_event ?hg (N := 11) ?hd (cs := #[.int .i64 0, .slice none 0 0]) (t := 36) ?hr ?_; (case hd => rfl); (case hg => rfl); (case hr => first | (go_simp; done) | (go_simp; rfl)); intro gb359 hg w123 hbox hb; replace HO_348001 := rb HO_348001 hb; replace HO_354001 := rb HO_354001 hb; replace HO357 := rb HO357 hb; have BK359 := Aside0.mk (hbox); have GW359 := gw hg HB; have GE359 := gw hg HB; replace HB := bs HB hb; have NB336_359 := nl hg BK336; have NB359_336 := ng hg BK336; replace BK336 := bb BK336 hb; have NB337_359 := nl hg BK337; have NB359_337 := ng hg BK337; replace BK337 := bb BK337 hb; have NB338_359 := nl hg BK338; have NB359_338 := ng hg BK338; replace BK338 := bb BK338 hb; have NB347_359 := nl hg BK347; have NB359_347 := ng hg BK347; replace BK347 := bb BK347 hb; have NB353_359 := nl hg BK353; have NB359_353 := ng hg BK353; replace BK353 := bb BK353 hb; clear hb hbox hg; have hnb124 := NB359_336.out; have hnc124 := NB336_359.out; have hnb125 := NB359_337.out; have hnc125 := NB337_359.out; have hnb126 := NB359_338.out; have hnc126 := NB338_359.out; have hnb127 := NB359_347.out; have hnc127 := NB347_359.out; have hnb128 := NB359_353.out; have hnc128 := NB353_359.out; obtain ⟨hcz129_0, hcz129_1⟩ := c2 BK359; have hfz129_0 := blk_frozen BK359.out 0; have hfz129_1 := blk_frozen BK359.out 1; obtain ⟨Ao130, co130, eo130⟩ := Kd.R_slice HO357.out; subst eo130))
        go_ret
        exact ⟨by first | rfl | (simp [errW_none, errW_some] <;> rfl) | (simp [*, errW_none, errW_some] <;> rfl), ms HB⟩

/-! ### laws_eqFarkas: function 49 -/
def laws_eqFarkas.f (k : Nat) (a0_0 : Int) (l0_1 : List Int) (a1_0 : Int) (l1_1 : List Int) : Option (Bool) := if a0_0 = a1_0 then ((laws_eqIntS.f k l0_1 l1_1).bind fun t363 => (if t363 = true then (some true) else (some false))) else (some false)
theorem laws_eqFarkas.mono : ∀ a0 a1 a2 a3 k, LeO (laws_eqFarkas.f k a0 a1 a2 a3) (laws_eqFarkas.f (k + 1) a0 a1 a2 a3) := by
 intro a0 a1 a2 a3 k
 unfold laws_eqFarkas.f
 repeat' first
   | (with_reducible exact laws_eqIntS.mono _ _ _)
   | (with_reducible exact LeO.refl _)
   | (with_reducible exact LeO.none _)
   | (with_reducible refine LeO.ite ?_ ?_)
   | (with_reducible refine LeO.bind ?_ (fun _ => ?_))
   | exact laws_eqIntS.mono _ _ _
   | exact LeO.none _
   | refine LeO.ite ?_ ?_
   | refine LeO.bind ?_ (fun _ => ?_)
set_option maxHeartbeats 8000000 in
set_option maxRecDepth 100000 in
theorem laws_eqFarkas.calls (k : Nat) (a0_0 : Int) (A0_1 : Option Addr) (c0_1 : Nat) (l0_1 : List Int) (a1_0 : Int) (A1_1 : Option Addr) (c1_1 : Nat) (l1_1 : List Int) (r : Bool) (w : World) (hr0_1 : Kd.C (Kd.int .i64) w A0_1 l0_1.length l0_1) (hc0_1 : l0_1.length ≤ c0_1) (hr1_1 : Kd.C (Kd.int .i64) w A1_1 l1_1.length l1_1) (hc1_1 : l1_1.length ≤ c1_1) (h : laws_eqFarkas.f k a0_0 l0_1 a1_0 l1_1 = some r) :
  Calls Try.prog 49 #[.agg #[.int .i64 a0_0, .slice A0_1 l0_1.length c0_1], .agg #[.int .i64 a1_0, .slice A1_1 l1_1.length c1_1]] w fun e w' => e = .returned (.bool r) ∧ Below w.heap.size w w' := by
 have hu65 := Try.underlying65
 have HR0_1 := Aside0.mk hr0_1
 have HC0_1 := Aside0.mk hc0_1
 clear hr0_1 hc0_1
 have HR1_1 := Aside0.mk hr1_1
 have HC1_1 := Aside0.mk hc1_1
 clear hr1_1 hc1_1
 have HB := Aside0.mk (Below.refl w.heap.size w)
 have H : (if a0_0 = a1_0 then ((laws_eqIntS.f k l0_1 l1_1).bind fun t363 => (if t363 = true then (some true) else (some false))) else (some false)) = some r := h
 clear h
 by_cases c3 : a0_0 = a1_0
 ·rw [if_pos c3] at H
  have c3b0 : (a0_0 == a1_0) = true := beq_iff_eq.mpr c3
  have c3b1 : (a0_0 != a1_0) = false := bne_eq_false_iff_eq.mpr c3
  clear c3
  replace H := Option.bind_eq_some_iff.mp H
  obtain ⟨t363, A40, H⟩ := H
  replace H : (if t363 = true then (some true) else (some false)) = some r := H
  have A4 := Aside0.mk A40
  clear A40
  by_cases c5 : t363 = true
  ·subst c5
   have H1 : (some true) = some r := by rw [if_pos rfl] at H; exact H
   clear H
   have H := H1
   clear H1
   obtain rfl := Option.some.inj H
   go_enter Try.func49, Try.ntmps49
   go_wp2_with (first | ((with_reducible refine gate_dst (N := 2) rfl ?_); refine box_event ?hg (N := 2) ?hd (cs := #[.int .i64 a0_0, .slice A0_1 l0_1.length c0_1]) (t := 65) ?hr ?_; (case hd => rfl); (case hg => rfl); (case hr => first | (go_simp; done) | (go_simp; rfl)); intro gb361 hg w6 hbox hb; have BK361 := Aside0.mk (hbox); have GW361 := gw hg HB; have GE361 := gw hg HB; replace HB := bs HB hb; clear hb hbox hg) | ((with_reducible refine gate_dst (N := 3) rfl ?_); refine box_event ?hg (N := 3) ?hd (cs := #[.int .i64 a1_0, .slice A1_1 l1_1.length c1_1]) (t := 65) ?hr ?_; (case hd => rfl); (case hg => rfl); (case hr => first | (go_simp; done) | (go_simp; rfl)); intro gb362 hg w7 hbox hb; have BK362 := Aside0.mk (hbox); have GW362 := gw hg HB; have GE362 := gw hg HB; replace HB := bs HB hb; have NB361_362 := nl hg BK361; have NB362_361 := ng hg BK361; replace BK361 := bb BK361 hb; clear hb hbox hg; have hnb8 := NB361_362.out; have hnc8 := NB362_361.out; obtain ⟨hcz9_0, hcz9_1⟩ := c2 BK361; have hfz9_0 := blk_frozen BK361.out 0; have hfz9_1 := blk_frozen BK361.out 1; obtain ⟨hcz10_0, hcz10_1⟩ := c2 BK362; have hfz10_0 := blk_frozen BK362.out 0; have hfz10_1 := blk_frozen BK362.out 1) | ((with_reducible refine gate_callee (f := 25) rfl ?_); refine goesL_ (some 14) rfl rfl Try.func25 (by kernel_rfl) rfl #[.slice A0_1 l0_1.length c0_1, .slice A1_1 l1_1.length c1_1] rfl (by (try simp only [List.map_toArray, List.map_cons, List.map_nil]); first | done | rfl | (simp only [List.length_drop, List.length_take]; rfl)) ?_; (with_reducible refine (laws_eqIntS.calls k _ _ l0_1 _ _ l1_1 true _ ?side1 ?side2 ?side3 ?side4 A4.out).mono ?_); (case side1 => exact mc ((Kd.C_below HR0_1.out HB.out))); (case side2 => exact HC0_1.out); (case side3 => exact mc ((Kd.C_below HR1_1.out HB.out))); (case side4 => exact HC1_1.out); rintro e w' ⟨rfl, ⟨nd, rfl⟩⟩; refine ⟨_, rfl, ?_⟩))
   go_ret
   exact ⟨by first | rfl | (simp [errW_none, errW_some] <;> rfl) | (simp [*, errW_none, errW_some] <;> rfl), ms HB⟩
  ·replace c5 := Bool.eq_false_iff.mpr c5
   subst c5
   have H1 : (some false) = some r := by rw [if_neg (show ¬ (false = true) by decide)] at H; exact H
   clear H
   have H := H1
   clear H1
   obtain rfl := Option.some.inj H
   go_enter Try.func49, Try.ntmps49
   go_wp2_with (first | ((with_reducible refine gate_dst (N := 2) rfl ?_); refine box_event ?hg (N := 2) ?hd (cs := #[.int .i64 a0_0, .slice A0_1 l0_1.length c0_1]) (t := 65) ?hr ?_; (case hd => rfl); (case hg => rfl); (case hr => first | (go_simp; done) | (go_simp; rfl)); intro gb361 hg w11 hbox hb; have BK361 := Aside0.mk (hbox); have GW361 := gw hg HB; have GE361 := gw hg HB; replace HB := bs HB hb; clear hb hbox hg) | ((with_reducible refine gate_dst (N := 3) rfl ?_); refine box_event ?hg (N := 3) ?hd (cs := #[.int .i64 a1_0, .slice A1_1 l1_1.length c1_1]) (t := 65) ?hr ?_; (case hd => rfl); (case hg => rfl); (case hr => first | (go_simp; done) | (go_simp; rfl)); intro gb362 hg w12 hbox hb; have BK362 := Aside0.mk (hbox); have GW362 := gw hg HB; have GE362 := gw hg HB; replace HB := bs HB hb; have NB361_362 := nl hg BK361; have NB362_361 := ng hg BK361; replace BK361 := bb BK361 hb; clear hb hbox hg; have hnb13 := NB361_362.out; have hnc13 := NB362_361.out; obtain ⟨hcz14_0, hcz14_1⟩ := c2 BK361; have hfz14_0 := blk_frozen BK361.out 0; have hfz14_1 := blk_frozen BK361.out 1; obtain ⟨hcz15_0, hcz15_1⟩ := c2 BK362; have hfz15_0 := blk_frozen BK362.out 0; have hfz15_1 := blk_frozen BK362.out 1) | ((with_reducible refine gate_callee (f := 25) rfl ?_); refine goesL_ (some 14) rfl rfl Try.func25 (by kernel_rfl) rfl #[.slice A0_1 l0_1.length c0_1, .slice A1_1 l1_1.length c1_1] rfl (by (try simp only [List.map_toArray, List.map_cons, List.map_nil]); first | done | rfl | (simp only [List.length_drop, List.length_take]; rfl)) ?_; (with_reducible refine (laws_eqIntS.calls k _ _ l0_1 _ _ l1_1 false _ ?side1 ?side2 ?side3 ?side4 A4.out).mono ?_); (case side1 => exact mc ((Kd.C_below HR0_1.out HB.out))); (case side2 => exact HC0_1.out); (case side3 => exact mc ((Kd.C_below HR1_1.out HB.out))); (case side4 => exact HC1_1.out); rintro e w' ⟨rfl, ⟨nd, rfl⟩⟩; refine ⟨_, rfl, ?_⟩))
   go_ret
   exact ⟨by first | rfl | (simp [errW_none, errW_some] <;> rfl) | (simp [*, errW_none, errW_some] <;> rfl), ms HB⟩
 ·rw [if_neg c3] at H
  have c3b0 : (a0_0 == a1_0) = false := beq_eq_false_iff_ne.mpr c3
  have c3b1 : (a0_0 != a1_0) = true := bne_iff_ne.mpr c3
  obtain rfl := Option.some.inj H
  go_enter Try.func49, Try.ntmps49
  go_wp2_with (first | ((with_reducible refine gate_dst (N := 2) rfl ?_); refine box_event ?hg (N := 2) ?hd (cs := #[.int .i64 a0_0, .slice A0_1 l0_1.length c0_1]) (t := 65) ?hr ?_; (case hd => rfl); (case hg => rfl); (case hr => first | (go_simp; done) | (go_simp; rfl)); intro gb361 hg w16 hbox hb; have BK361 := Aside0.mk (hbox); have GW361 := gw hg HB; have GE361 := gw hg HB; replace HB := bs HB hb; clear hb hbox hg) | ((with_reducible refine gate_dst (N := 3) rfl ?_); refine box_event ?hg (N := 3) ?hd (cs := #[.int .i64 a1_0, .slice A1_1 l1_1.length c1_1]) (t := 65) ?hr ?_; (case hd => rfl); (case hg => rfl); (case hr => first | (go_simp; done) | (go_simp; rfl)); intro gb362 hg w17 hbox hb; have BK362 := Aside0.mk (hbox); have GW362 := gw hg HB; have GE362 := gw hg HB; replace HB := bs HB hb; have NB361_362 := nl hg BK361; have NB362_361 := ng hg BK361; replace BK361 := bb BK361 hb; clear hb hbox hg; have hnb18 := NB361_362.out; have hnc18 := NB362_361.out; obtain ⟨hcz19_0, hcz19_1⟩ := c2 BK361; have hfz19_0 := blk_frozen BK361.out 0; have hfz19_1 := blk_frozen BK361.out 1; obtain ⟨hcz20_0, hcz20_1⟩ := c2 BK362; have hfz20_0 := blk_frozen BK362.out 0; have hfz20_1 := blk_frozen BK362.out 1))
  go_ret
  exact ⟨by first | rfl | (simp [errW_none, errW_some] <;> rfl) | (simp [*, errW_none, errW_some] <;> rfl), ms HB⟩

end Go.Proofs.Ytghiljjkaiggfaa.QFnExactCheckFarkas
