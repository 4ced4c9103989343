-- Made by a program of this claim's own (wip/print): not the kit's print as it stands.
import Derived.Test.YtlencemmlgkflaaUFnEntailedTri
import Derived.Test.YtlencemmlgkflaaQFnEntailedx0
import Derived.Test.YtlencemmlgkflaaQFnEntailedx7
import Derived.Test.YtlencemmlgkflaaQFnEntailedx8
namespace Go.Proofs.Ytlencemmlgkflaa.QFnEntailed
open Go.RowKit Go.Proofs.YtlencemmlgkflaaV.PrintWords Go.Proofs.YtlencemmlgkflaaV.PrintLast Go.Proofs.YtlencemmlgkflaaV.PrintMore
attribute [local go_sem] max2_int min2_int max_two min_two max_three min_three max_four min_four   -- for this text's walks alone
set_option linter.unusedVariables false
set_option linter.unusedSimpArgs false

/-! ### spec_AddScaled: function 81 -/
mutual
def spec_AddScaled.j0 : Nat → Int → Int → Bool → Int → List Int → Int → List Int → Option (Int × List Int × Bool)
 | 0, _, _, _, _, _, _, _ => none
 | k + 1, x1, x8, x33, x257000, x257001, x258000, x258001 => if x33 = true then (some (0, ([] : List Int), false)) else (if 0 ≤ x8 then (if (x8 : Int).toNat ≤ 35184372088832 then (spec_AddScaled.l0 k x1 x8 true 0 x257000 x257001 x258000 x258001 0 (List.replicate (x8 : Int).toNat 0)) else (none)) else (none))
def spec_AddScaled.l0 : Nat → Int → Int → Bool → Int → Int → List Int → Int → List Int → Int → List Int → Option (Int × List Int × Bool)
 | 0, _, _, _, _, _, _, _, _, _, _ => none
 | k + 1, x1, x8, x10, x11, x257000, x257001, x258000, x258001, x266000, x266001 => if x11 < x8 then (if 0 ≤ x11 then (if x11 < (x257001.length : Int) then (if x11 < (x258001.length : Int) then ((spec_l4Sum.f (rd x257001 x11) x1 (rd x258001 x11)).bind fun bt268 => (if x11 < (x266001.length : Int) then ((some (x266001.set (x11 : Int).toNat bt268.1 : List Int)).bind fun y270 => (if x10 = true then (spec_AddScaled.l0 k x1 x8 bt268.2 (wrap64 (x11 + 1)) x257000 x257001 x258000 x258001 x266000 y270) else (spec_AddScaled.l0 k x1 x8 false (wrap64 (x11 + 1)) x257000 x257001 x258000 x258001 x266000 y270))) else (none))) else (none)) else (none)) else (none)) else ((spec_l4Sum.f x257000 x1 x258000).bind fun bt271 => (if x10 = true then (if bt271.2 = true then (some (bt271.1, x266001, true)) else (some (0, ([] : List Int), false))) else (some (0, ([] : List Int), false))))
end
def spec_AddScaled.f (k : Nat) (a0_0 : Int) (l0_1 : List Int) (a1 : Int) (a2_0 : Int) (l2_1 : List Int) : Option (Int × List Int × Bool) := (spec_IsValidLin.f k a0_0 l0_1 (l0_1.length : Int)).bind fun t259 => (if t259 = true then ((spec_IsValidLin.f k a2_0 l2_1 (l0_1.length : Int)).bind fun t260 => (if t260 = true then ((spec_l3In.f a1).bind fun t261 => (spec_AddScaled.j0 k a1 (l0_1.length : Int) (!t261) a0_0 l0_1 a2_0 l2_1)) else (spec_AddScaled.j0 k a1 (l0_1.length : Int) true a0_0 l0_1 a2_0 l2_1))) else (spec_AddScaled.j0 k a1 (l0_1.length : Int) true a0_0 l0_1 a2_0 l2_1))
theorem spec_AddScaled.mono_l : ∀ k, (∀ y0 y1 y2 y3 y4 y5 y6, LeO (spec_AddScaled.j0 k y0 y1 y2 y3 y4 y5 y6) (spec_AddScaled.j0 (k + 1) y0 y1 y2 y3 y4 y5 y6)) ∧ (∀ y0 y1 y2 y3 y4 y5 y6 y7 y8 y9, LeO (spec_AddScaled.l0 k y0 y1 y2 y3 y4 y5 y6 y7 y8 y9) (spec_AddScaled.l0 (k + 1) y0 y1 y2 y3 y4 y5 y6 y7 y8 y9))
 | 0 => ⟨fun _ _ _ _ _ _ _ r h => by simp [spec_AddScaled.j0] at h, fun _ _ _ _ _ _ _ _ _ _ r h => by simp [spec_AddScaled.l0] at h⟩
 | k + 1 => by
  obtain ⟨ih0, ih1⟩ := spec_AddScaled.mono_l k
  refine ⟨?_, ?_⟩
  ·intro y0 y1 y2 y3 y4 y5 y6
   unfold spec_AddScaled.j0
   repeat' with_reducible first
   | exact ih0 _ _ _ _ _ _ _
   | exact ih1 _ _ _ _ _ _ _ _ _ _
   | exact spec_IsValidLin.mono _ _ _ _
   | exact LeO.refl _
   | exact LeO.none _
   | refine LeO.ite ?_ ?_
   | refine LeO.bind ?_ (fun _ => ?_)
  intro y0 y1 y2 y3 y4 y5 y6 y7 y8 y9
  unfold spec_AddScaled.l0
  repeat' with_reducible first
  | exact ih0 _ _ _ _ _ _ _
  | exact ih1 _ _ _ _ _ _ _ _ _ _
  | exact spec_IsValidLin.mono _ _ _ _
  | exact LeO.refl _
  | exact LeO.none _
  | refine LeO.ite ?_ ?_
  | refine LeO.bind ?_ (fun _ => ?_)
theorem spec_AddScaled.mono : ∀ a0 a1 a2 a3 a4 k, LeO (spec_AddScaled.f k a0 a1 a2 a3 a4) (spec_AddScaled.f (k + 1) a0 a1 a2 a3 a4) := by
 intro a0 a1 a2 a3 a4 k
 obtain ⟨ih0, ih1⟩ := spec_AddScaled.mono_l k
 unfold spec_AddScaled.f
 repeat' with_reducible first
 | exact ih0 _ _ _ _ _ _ _
 | exact ih1 _ _ _ _ _ _ _ _ _ _
 | exact spec_IsValidLin.mono _ _ _ _
 | exact LeO.refl _
 | exact LeO.none _
 | refine LeO.ite ?_ ?_
 | refine LeO.bind ?_ (fun _ => ?_)
set_option maxHeartbeats 8000000 in
set_option maxRecDepth 100000 in
theorem spec_AddScaled.calls (k : Nat) (a0_0 : Int) (A0_1 : Option Addr) (c0_1 : Nat) (l0_1 : List Int) (a1 : Int) (a2_0 : Int) (A2_1 : Option Addr) (c2_1 : Nat) (l2_1 : List Int) (r1 : Int) (r2 : List Int) (r3 : Bool) (w : World) (hr0_1 : Kd.C (Kd.int .i64) w A0_1 l0_1.length l0_1) (hc0_1 : l0_1.length ≤ c0_1) (hr2_1 : Kd.C (Kd.int .i64) w A2_1 l2_1.length l2_1) (hc2_1 : l2_1.length ≤ c2_1) (h : spec_AddScaled.f k a0_0 l0_1 a1 a2_0 l2_1 = some (r1, r2, r3)) :
  Calls Try.prog 81 #[.agg #[.int .i64 a0_0, .slice A0_1 l0_1.length c0_1], .int .i64 a1, .agg #[.int .i64 a2_0, .slice A2_1 l2_1.length c2_1]] w fun e w' => ∃ v1_ : Value, e = .returned (.tuple #[.agg #[.int .i64 r1, v1_], .bool r3]) ∧ Kd.R (Kd.int .i64) 3 w' w.heap.size (fun _ => True) v1_ r2 ∧ Below w.heap.size w w' := by
 have hu29 := Try.underlying29
 have HR0_1 := Aside0.mk hr0_1
 have HC0_1 := Aside0.mk hc0_1
 clear hr0_1 hc0_1
 have HR2_1 := Aside0.mk hr2_1
 have HC2_1 := Aside0.mk hc2_1
 clear hr2_1 hc2_1
 have HB := Aside0.mk (Below.refl w.heap.size w)
 have H : ((spec_IsValidLin.f k a0_0 l0_1 (l0_1.length : Int)).bind fun t259 => (if t259 = true then ((spec_IsValidLin.f k a2_0 l2_1 (l0_1.length : Int)).bind fun t260 => (if t260 = true then ((spec_l3In.f a1).bind fun t261 => (spec_AddScaled.j0 k a1 (l0_1.length : Int) (!t261) a0_0 l0_1 a2_0 l2_1)) else (spec_AddScaled.j0 k a1 (l0_1.length : Int) true a0_0 l0_1 a2_0 l2_1))) else (spec_AddScaled.j0 k a1 (l0_1.length : Int) true a0_0 l0_1 a2_0 l2_1))) = some (r1, r2, r3) := h
 clear h
 have HC4 := Aside0.mk H; clear H
 go_enter Try.func81, Try.ntmps81
 go_upto_region 2 with (first | ((with_reducible refine gate_dst (N := 3) rfl ?_); refine box_event ?hg (N := 3) ?hd (cs := #[.int .i64 a0_0, .slice A0_1 l0_1.length c0_1]) (t := 29) ?hr ?_; (case hd => rfl); (case hg => rfl); (case hr => first | (go_simp; done) | (go_simp; rfl)); intro gb256 hg w5 hbox hb; have BK256 := Aside0.mk (hbox); have GW256 := gw hg HB; have GE256 := gw hg HB; replace HB := bs HB hb; clear hb hbox hg) | ((with_reducible refine gate_dst (N := 5) rfl ?_); refine box_event ?hg (N := 5) ?hd (cs := #[.int .i64 a2_0, .slice A2_1 l2_1.length c2_1]) (t := 29) ?hr ?_; (case hd => rfl); (case hg => rfl); (case hr => first | (go_simp; done) | (go_simp; rfl)); intro gb257 hg w6 hbox hb; have BK257 := Aside0.mk (hbox); have GW257 := gw hg HB; have GE257 := gw hg HB; replace HB := bs HB hb; have NB256_257 := nl hg BK256; have NB257_256 := ng hg BK256; replace BK256 := bb BK256 hb; clear hb hbox hg) | ((with_reducible refine gate_dst (N := 6) rfl ?_); refine box_event ?hg (N := 6) ?hd (cs := #[.int .i64 0, .slice none 0 0]) (t := 29) ?hr ?_; (case hd => rfl); (case hg => rfl); (case hr => first | (go_simp; done) | (go_simp; rfl)); intro gb258 hg w7 hbox hb; have BK258 := Aside0.mk (hbox); have GW258 := gw hg HB; have GE258 := gw hg HB; replace HB := bs HB hb; have NB256_258 := nl hg BK256; have NB258_256 := ng hg BK256; replace BK256 := bb BK256 hb; have NB257_258 := nl hg BK257; have NB258_257 := ng hg BK257; replace BK257 := bb BK257 hb; clear hb hbox hg; have := NB256_257.out; have := NB257_256.out; have := NB256_258.out; have := NB258_256.out; obtain ⟨hcz10_0, hcz10_1, hfz10_0, hfz10_1⟩ := cFour BK256))
 repeat (go_quiet (fail); go_upto_region 2 with (fail))
 (try simp only [Act.put, List.setIfInBounds_toArray, List.set_cons_zero, List.set_cons_succ])
 go_cut [33] (fun v33 wc => ∃ (kq : Nat) (x33_3 : Bool), v33 = .bool x33_3 ∧ Aside0 (spec_AddScaled.j0 kq a1 (l0_1.length : Int) x33_3 a0_0 l0_1 a2_0 l2_1 = some (r1, r2, r3)) ∧ Aside0 (kq ≤ k) ∧ Aside0 (wc.heap[gb256]? = some (.cells #[.int .i64 a0_0, (.slice A0_1 l0_1.length c0_1)] 29 (0, 0))) ∧ Aside0 (wc.heap[gb257]? = some (.cells #[.int .i64 a2_0, (.slice A2_1 l2_1.length c2_1)] 29 (0, 0))) ∧ Aside0 (wc.heap[gb258]? = some (.cells #[.int .i64 0, (.slice none 0 0)] 29 (0, 0))) ∧ Aside0 (Below w.heap.size w wc))
 case first =>
  have H := HC4.out
  clear HC4
  obtain ⟨t259, A110, H⟩ := Option.bind_eq_some_iff.mp H
  try dsimp only at H
  have A11 := Aside0.mk A110; clear A110
  by_cases c12 : t259 = true
  ·subst c12
   rw [if_pos rfl] at H
   obtain ⟨t260, A130, H⟩ := Option.bind_eq_some_iff.mp H
   try dsimp only at H
   have A13 := Aside0.mk A130; clear A130
   by_cases c14 : t260 = true
   ·subst c14
    rw [if_pos rfl] at H
    obtain ⟨t261, A150, H⟩ := Option.bind_eq_some_iff.mp H
    try dsimp only at H
    have A15 := Aside0.mk A150; clear A150
    have H' := Aside0.mk H
    clear H
    have := NB256_257.out
    have := NB257_256.out
    have := NB256_258.out
    have := NB258_256.out
    obtain ⟨hcz18_0, hcz18_1, hfz18_0, hfz18_1⟩ := cFour BK256
    go_wp2_with (first | (go_at_call 80; (with_reducible refine (spec_IsValidLin.calls k a0_0 _ _ l0_1 (l0_1.length : Int) true _ ?side1 ?side2 A11.out).mono ?_); (case side1 => exact mc ((Kd.C_below HR0_1.out HB.out))); (case side2 => exact HC0_1.out); rintro e w19 ⟨rfl, hb⟩; replace BK256 := bb BK256 hb; replace BK257 := bb BK257 hb; replace BK258 := bb BK258 hb; replace HB := bs HB hb; (try clear hb); have := NB257_258.out; have := NB258_257.out; obtain ⟨hcz21_0, hcz21_1, hfz21_0, hfz21_1⟩ := cFour BK257) | (go_at_call 80; (with_reducible refine (spec_IsValidLin.calls k a2_0 _ _ l2_1 (l0_1.length : Int) true _ ?side1 ?side2 A13.out).mono ?_); (case side1 => exact mc ((Kd.C_below HR2_1.out HB.out))); (case side2 => exact HC2_1.out); rintro e w22 ⟨rfl, hb⟩; replace BK256 := bb BK256 hb; replace BK257 := bb BK257 hb; replace BK258 := bb BK258 hb; replace HB := bs HB hb; (try clear hb)) | (go_at_call 129; (with_reducible refine (spec_l3In.calls a1 t261 _ A15.out).mono ?_); rintro e w' ⟨rfl, ⟨nd, rfl⟩⟩; (try first | exact ⟨rfl, _, World.drewN_drewN _ _ _⟩ | exact ⟨rfl, _, Eq.trans (World.drewN_drewN _ _ _) (congrArg (World.drewN _) (Nat.add_assoc _ _ _))⟩)))
    repeat (go_quiet (fail); try go_wp2_with (fail))
    go_meet
    case rel => exact ⟨_, (!t261), (by first | rfl | (simp; done) | (simp [*]; done)), H', ⟨by first | omega | exact Nat.le_refl _⟩, ⟨mb BK256⟩, ⟨mb BK257⟩, ⟨mb BK258⟩, ⟨ms HB⟩⟩
   replace c14 := Bool.eq_false_iff.mpr c14
   subst c14
   rw [if_neg (show ¬ (false = true) by decide)] at H
   have H' := Aside0.mk H
   clear H
   have := NB256_257.out
   have := NB257_256.out
   have := NB256_258.out
   have := NB258_256.out
   obtain ⟨hcz25_0, hcz25_1, hfz25_0, hfz25_1⟩ := cFour BK256
   go_wp2_with (first | (go_at_call 80; (with_reducible refine (spec_IsValidLin.calls k a0_0 _ _ l0_1 (l0_1.length : Int) true _ ?side1 ?side2 A11.out).mono ?_); (case side1 => exact mc ((Kd.C_below HR0_1.out HB.out))); (case side2 => exact HC0_1.out); rintro e w26 ⟨rfl, hb⟩; replace BK256 := bb BK256 hb; replace BK257 := bb BK257 hb; replace BK258 := bb BK258 hb; replace HB := bs HB hb; (try clear hb); have := NB257_258.out; have := NB258_257.out; obtain ⟨hcz28_0, hcz28_1, hfz28_0, hfz28_1⟩ := cFour BK257) | (go_at_call 80; (with_reducible refine (spec_IsValidLin.calls k a2_0 _ _ l2_1 (l0_1.length : Int) false _ ?side1 ?side2 A13.out).mono ?_); (case side1 => exact mc ((Kd.C_below HR2_1.out HB.out))); (case side2 => exact HC2_1.out); rintro e w29 ⟨rfl, hb⟩; replace BK256 := bb BK256 hb; replace BK257 := bb BK257 hb; replace BK258 := bb BK258 hb; replace HB := bs HB hb; (try clear hb)))
   repeat (go_quiet (fail); try go_wp2_with (fail))
   go_meet
   case rel => exact ⟨_, (true), (by first | rfl | (simp; done) | (simp [*]; done)), H', ⟨by first | omega | exact Nat.le_refl _⟩, ⟨mb BK256⟩, ⟨mb BK257⟩, ⟨mb BK258⟩, ⟨ms HB⟩⟩
  replace c12 := Bool.eq_false_iff.mpr c12
  subst c12
  rw [if_neg (show ¬ (false = true) by decide)] at H
  have H' := Aside0.mk H
  clear H
  have := NB256_257.out
  have := NB257_256.out
  have := NB256_258.out
  have := NB258_256.out
  obtain ⟨hcz32_0, hcz32_1, hfz32_0, hfz32_1⟩ := cFour BK256
  go_wp2_with ((go_at_call 80; (with_reducible refine (spec_IsValidLin.calls k a0_0 _ _ l0_1 (l0_1.length : Int) false _ ?side1 ?side2 A11.out).mono ?_); (case side1 => exact mc ((Kd.C_below HR0_1.out HB.out))); (case side2 => exact HC0_1.out); rintro e w33 ⟨rfl, hb⟩; replace BK256 := bb BK256 hb; replace BK257 := bb BK257 hb; replace BK258 := bb BK258 hb; replace HB := bs HB hb; (try clear hb)))
  repeat (go_quiet (fail); try go_wp2_with (fail))
  go_meet
  case rel => exact ⟨_, (true), (by first | rfl | (simp; done) | (simp [*]; done)), H', ⟨by first | omega | exact Nat.le_refl _⟩, ⟨mb BK256⟩, ⟨mb BK257⟩, ⟨mb BK258⟩, ⟨ms HB⟩⟩
 case rest =>
  clear HC4
  try clear c1
  try clear c2
  try clear p2
  try clear c3
  try clear c8
  try clear c9
  try clear c12
  try clear c14
  try clear c16
  try clear c17
  try clear c20
  try clear c23
  try clear c24
  try clear c27
  try clear c30
  try clear c31
  try clear hcz10_0
  try clear hcz10_1
  try clear hcz18_0
  try clear hcz18_1
  try clear hcz21_0
  try clear hcz21_1
  try clear hcz25_0
  try clear hcz25_1
  try clear hcz28_0
  try clear hcz28_1
  try clear hcz32_0
  try clear hcz32_1
  try clear hfz10_0
  try clear hfz10_1
  try clear hfz18_0
  try clear hfz18_1
  try clear hfz21_0
  try clear hfz21_1
  try clear hfz25_0
  try clear hfz25_1
  try clear hfz28_0
  try clear hfz28_1
  try clear hfz32_0
  try clear hfz32_1
  obtain ⟨kq, x33_3, rfl, HA, HJ3, BK256, BK257, BK258, HB⟩ := hcut
  cases kq with
  | zero => exact absurd HA.out (by simp [spec_AddScaled.j0])
  | succ kj3 =>
   have H := HA.out
   clear HA
   simp only [spec_AddScaled.j0] at H
   by_cases c34 : x33_3 = true
   ·subst c34
    rw [if_pos rfl] at H
    simp only [Option.some.injEq, Prod.mk.injEq] at H
    obtain ⟨rfl, rfl, rfl⟩ := H
    have := NB258_256.out
    have := NB256_258.out
    have := NB258_257.out
    have := NB257_258.out
    obtain ⟨hcz37_0, hcz37_1, hfz37_0, hfz37_1⟩ := cFour BK258
    go_wp2
    repeat (go_quiet (fail); try go_wp2)
    refine bodyPost_ret (results_ct rfl _ _ gb258 29 #[.int .i64 0, .slice none 0 0] (0, 0) _ rfl (mq BK258) Try.underlying29 rfl (by kernel_rfl)) rfl ?_
    exact ⟨_, by first | rfl | (simp [errW_none, errW_some] <;> rfl) | (simp [*, errW_none, errW_some] <;> rfl), by first | exact Kd.R_nil _ _ _ _ _ | exact Kd.N_nil _ _ _ _ _ | exact Kd.V_nil _ _ _ _ _ | exact Kd.Q_nil _ _ _ _ _ | exact Kd.S_nil _ _ _ _ _, ms HB⟩
   replace c34 := Bool.eq_false_iff.mpr c34
   subst c34
   rw [if_neg (show ¬ (false = true) by decide)] at H
   by_cases c38 : 0 ≤ (l0_1.length : Int)
   ·rw [if_pos c38] at H
    have c38b0 := eq_true c38
    have c38b1 : decide (0 ≤ (l0_1.length : Int)) = true := decide_eq_true c38
    clear c38
    by_cases c39 : ((l0_1.length : Int) : Int).toNat ≤ 35184372088832
    ·rw [if_pos c39] at H
     have c39b0 := eq_true c39
     have c39b1 : decide (((l0_1.length : Int) : Int).toNat ≤ 35184372088832) = true := decide_eq_true c39
     clear c39
     obtain ⟨y262, hy262⟩ : ∃ y_ : List Int, y_ = (List.replicate ((l0_1.length : Int) : Int).toNat 0) := ⟨_, rfl⟩
     replace H : (spec_AddScaled.l0 kj3 a1 (l0_1.length : Int) true 0 a0_0 l0_1 a2_0 l2_1 0 y262) = some (r1, r2, r3) := by first | (rw [hy262]; with_reducible exact H) | (have H2_ := (Option.bind_some _ _).symm.trans H; rw [hy262]; with_reducible exact H2_) | (have H2_ := (Option.bind_some _ _).symm.trans H; with_reducible exact H2_) | with_reducible exact H | (rw [hy262]; exact H) | exact H
     have Ny262 := Aside0.mk hy262; clear hy262
     have H' := Aside0.mk H
     clear H
     go_wp2_with (first | ((with_reducible refine gate_dst (N := 36) rfl ?_); refine Kd.R_make (Kd.int .i64) _ 3 rfl (N := 36) rfl 27 _ _ rfl (l0_1.length : Int) rfl rfl Try.underlying27 (.int .i64 0) 8 info3 rfl (by decide) (by omega) 0 (ok := fun _ => True) (okp := fun _ => True) rfl (fun _ hk => hk) trivial (of_decide_eq_true (by first | (with_reducible assumption) | assumption)) (Nat.le_trans (Nat.mul_le_mul_right _ (of_decide_eq_true (by first | (with_reducible assumption) | assumption) : (l0_1.length : Int).toNat ≤ 35184372088832)) (by omega)) (Below.refl _ _) (Nat.le_refl _) ?_; intro v263 w40 ho41 hb hg_ hnew_; clear hg_ hnew_; (first | rw [← Ny262.out] at ho41 | (simp only [Int.reduceToNat] at ho41; rw [← Ny262.out] at ho41)); have HO264 := Aside0.mk (Kd.R_lower ho41 (below_size (ms HB))); replace BK256 := bb BK256 hb; replace BK257 := bb BK257 hb; replace BK258 := bb BK258 hb; replace HB := bs HB hb; clear hb ho41; obtain ⟨Ao42, co42, eo42⟩ := Kd.R_slice HO264.out; subst eo42) | ((with_reducible refine gate_dst (N := 9) rfl ?_); refine box_event ?hg (N := 9) ?hd (cs := #[.int .i64 0, .slice none 0 0]) (t := 29) ?hr ?_; (case hd => rfl); (case hg => rfl); (case hr => first | (go_simp; done) | (go_simp; rfl)); intro gb265 hg w43 hbox hb; replace HO264 := rb HO264 hb; have BK265 := Aside0.mk (hbox); have GW265 := gw hg HB; have GE265 := gw hg HB; replace HB := bs HB hb; have NB256_265 := nl hg BK256; have NB265_256 := ng hg BK256; replace BK256 := bb BK256 hb; have NB257_265 := nl hg BK257; have NB265_257 := ng hg BK257; replace BK257 := bb BK257 hb; have NB258_265 := nl hg BK258; have NB265_258 := ng hg BK258; replace BK258 := bb BK258 hb; clear hb hbox hg; have := NB265_256.out; have := NB256_265.out; have := NB265_257.out; have := NB257_265.out; have := NB265_258.out; have := NB258_265.out; obtain ⟨hcz47_0, hcz47_1, hfz47_0, hfz47_1⟩ := cFour BK265))
     repeat (go_quiet (fail); try go_wp2_with (fail))
     go_loopg [10, 11] kj3 (fun kq v10 v11 w' => ∃ (x10_2 : Bool) (x11_2 : Int) (x266001_2 : List Int) (u266001 : Value), v10 = .bool x10_2 ∧ v11 = .int .i64 x11_2 ∧ Aside0 (spec_AddScaled.l0 kq a1 (l0_1.length : Int) x10_2 x11_2 a0_0 l0_1 a2_0 l2_1 0 x266001_2 = some (r1, r2, r3)) ∧ Aside0 (kq ≤ kj3) ∧ Aside0 (Kd.R (Kd.int .i64) 3 w' w.heap.size (fun _ => True) u266001 x266001_2) ∧ Aside0 (w'.heap[gb256]? = some (.cells #[.int .i64 a0_0, (.slice A0_1 l0_1.length c0_1)] 29 (0, 0))) ∧ Aside0 (w'.heap[gb257]? = some (.cells #[.int .i64 a2_0, (.slice A2_1 l2_1.length c2_1)] 29 (0, 0))) ∧ Aside0 (w'.heap[gb258]? = some (.cells #[.int .i64 0, (.slice none 0 0)] 29 (0, 0))) ∧ Aside0 (w'.heap[gb265]? = some (.cells #[.int .i64 0, u266001] 29 (0, 0))) ∧ Aside0 (Below w.heap.size w w'))
     case atStart => exact ⟨(true), (0), (y262), (.slice Ao42 y262.length co42), (by first | rfl | (simp; done) | (simp [*]; done)), (by first | rfl | (simp; done) | (simp [*]; done)), H', ⟨Nat.le_refl _⟩, ⟨by (with_reducible repeat (first | apply Kd.R_alloc | apply Kd.R_drewN | apply Kd.R_drew)); exact Kd.R_mono (Kd.R_far (p := ⟨gb265, 1, none⟩) (Kd.R_far (p := ⟨gb265, 0, none⟩) (Kd.R_types HO264.out BK265.out (by decide)) (fun _ hk => hk.2) (.int .i64 0)) (fun _ hk => hk.2) (.slice Ao42 y262.length co42)) (fun _ hk => trivial)⟩, ⟨mf BK256⟩, ⟨mf BK257⟩, ⟨mf BK258⟩, ⟨mq BK265⟩, ⟨ms HB⟩⟩
     case round =>
      clear H'
      try clear c1
      try clear c2
      try clear p2
      try clear c3
      try clear c4
      try clear c8
      try clear c9
      try clear c12
      try clear c14
      try clear c16
      try clear c17
      try clear c20
      try clear c23
      try clear c24
      try clear c27
      try clear c30
      try clear c31
      try clear c34
      try clear c35
      try clear c36
      try clear c38
      try clear c38b0
      try clear c38b1
      try clear c39
      try clear c39b0
      try clear c39b1
      try clear c44
      try clear c45
      try clear c46
      try clear hcz10_0
      try clear hcz10_1
      try clear hcz18_0
      try clear hcz18_1
      try clear hcz21_0
      try clear hcz21_1
      try clear hcz25_0
      try clear hcz25_1
      try clear hcz28_0
      try clear hcz28_1
      try clear hcz32_0
      try clear hcz32_1
      try clear hcz37_0
      try clear hcz37_1
      try clear hcz47_0
      try clear hcz47_1
      try clear hfz10_0
      try clear hfz10_1
      try clear hfz18_0
      try clear hfz18_1
      try clear hfz21_0
      try clear hfz21_1
      try clear hfz25_0
      try clear hfz25_1
      try clear hfz28_0
      try clear hfz28_1
      try clear hfz32_0
      try clear hfz32_1
      try clear hfz37_0
      try clear hfz37_1
      try clear hfz47_0
      try clear hfz47_1
      try clear p2
      obtain ⟨x10_2, x11_2, x266001_2, u266001, rfl, rfl, HA, HK2, HO_266001, BK256, BK257, BK258, BK265, HB⟩ := hrel
      cases gk with
      | zero => exact absurd HA.out (by simp [spec_AddScaled.l0])
      | succ k2 =>
       have H := HA.out
       clear HA
       simp only [spec_AddScaled.l0] at H
       by_cases c48 : x11_2 < (l0_1.length : Int)
       ·rw [if_pos c48] at H
        have c48b0 : decide (x11_2 < (l0_1.length : Int)) = true := decide_eq_true c48
        clear c48
        by_cases c49 : 0 ≤ x11_2
        ·rw [if_pos c49] at H
         have c49b0 : decide (0 ≤ x11_2) = true := decide_eq_true c49
         clear c49
         by_cases c50 : x11_2 < (l0_1.length : Int)
         ·rw [if_pos c50] at H
          have c50b0 : decide (x11_2 < (l0_1.length : Int)) = true := decide_eq_true c50
          clear c50
          by_cases c51 : x11_2 < (l2_1.length : Int)
          ·rw [if_pos c51] at H
           have c51b0 : decide (x11_2 < (l2_1.length : Int)) = true := decide_eq_true c51
           clear c51
           obtain ⟨⟨t268, t269⟩, A520, H⟩ := Option.bind_eq_some_iff.mp H
           try dsimp only at H
           have A52 := Aside0.mk A520; clear A520
           by_cases c53 : x11_2 < (x266001_2.length : Int)
           ·rw [if_pos c53] at H
            have c53b0 : decide (x11_2 < (x266001_2.length : Int)) = true := decide_eq_true c53
            clear c53
            obtain ⟨y270, hy270⟩ : ∃ y_ : List Int, y_ = (x266001_2.set (x11_2 : Int).toNat t268) := ⟨_, rfl⟩
            replace H : (if x10_2 = true then (spec_AddScaled.l0 k2 a1 (l0_1.length : Int) t269 (wrap64 (x11_2 + 1)) a0_0 l0_1 a2_0 l2_1 0 y270) else (spec_AddScaled.l0 k2 a1 (l0_1.length : Int) false (wrap64 (x11_2 + 1)) a0_0 l0_1 a2_0 l2_1 0 y270)) = some (r1, r2, r3) := by first | (rw [hy270]; with_reducible exact H) | (have H2_ := (Option.bind_some _ _).symm.trans H; rw [hy270]; with_reducible exact H2_) | (have H2_ := (Option.bind_some _ _).symm.trans H; with_reducible exact H2_) | with_reducible exact H | (rw [hy270]; exact H) | exact H
            have Ny270 := Aside0.mk hy270; clear hy270
            by_cases c55 : x10_2 = true
            ·subst c55
             rw [if_pos rfl] at H
             have H' := Aside0.mk H
             clear H
             have := NB256_257.out
             have := NB257_256.out
             have := NB256_258.out
             have := NB258_256.out
             have := NB256_265.out
             have := NB265_256.out
             obtain ⟨_, _, _, _⟩ := cFour BK256
             have p266 : 0 ≤ (x11_2 : Int) := of_decide_eq_true (by first | (with_reducible assumption) | assumption)
             have q266 : x11_2 < (l0_1.length : Int) := of_decide_eq_true (by first | (with_reducible assumption) | assumption)
             obtain ⟨ad266, e266, hx266_0⟩ := Kd.at_int HR0_1.out x11_2 p266 q266
             cases e266
             replace hx266_0 := (HB.out.cell (World.block_lt_of_cell? w _ hx266_0)).trans hx266_0
             replace p266 := eq_true p266
             replace q266 := eq_true q266
             have := NB257_258.out
             have := NB258_257.out
             have := NB257_265.out
             have := NB265_257.out
             obtain ⟨_, _, _, _⟩ := cFour BK257
             have p267 : 0 ≤ (x11_2 : Int) := of_decide_eq_true (by first | (with_reducible assumption) | assumption)
             have q267 : x11_2 < (l2_1.length : Int) := of_decide_eq_true (by first | (with_reducible assumption) | assumption)
             obtain ⟨ad267, e267, hx267_0⟩ := Kd.at_int HR2_1.out x11_2 p267 q267
             cases e267
             replace hx267_0 := (HB.out.cell (World.block_lt_of_cell? w _ hx267_0)).trans hx267_0
             replace p267 := eq_true p267
             replace q267 := eq_true q267
             go_wp2_with (fail)
             repeat (go_quiet ((go_at_call 130; (with_reducible refine (spec_l4Sum.calls (rd l0_1 x11_2) a1 (rd l2_1 x11_2) t268 t269 _ A52.out).mono ?_); rintro e w' ⟨rfl, ⟨nd, rfl⟩⟩; (try first | exact ⟨rfl, _, World.drewN_drewN _ _ _⟩ | exact ⟨rfl, _, Eq.trans (World.drewN_drewN _ _ _) (congrArg (World.drewN _) (Nat.add_assoc _ _ _))⟩); have := NB265_258.out; have := NB258_265.out; obtain ⟨_, _, _, _⟩ := cFour BK265; have p54 : 0 ≤ (x11_2 : Int) := of_decide_eq_true (by first | (with_reducible assumption) | assumption); have q54 : (x11_2 : Int) < ((x266001_2.length : Int) : Int) := of_decide_eq_true (by first | (with_reducible assumption) | assumption); obtain ⟨go54, co54, eo54, gb54, gl54, cl54, HG54⟩ := Kd.R_form HO_266001.out (by omega); (first | cases eo54 | (injection eo54 with ea_ en_ ec_; (first | subst ea_ | (injection ea_ with ea_; subst ea_)); subst ec_; clear en_)); have GB54 := Aside0.mk gb54; have GG54 := Aside0.mk HG54; clear gb54 gl54 HG54; obtain ⟨hx54_0, hf54_0⟩ := Kd.R_celln 0 HO_266001.out (x11_2 : Int) p54 q54; replace p54 := eq_true p54; replace q54 := eq_true q54; obtain ⟨hy65_, hz65_⟩ := Kd.R_celln 0 HO_266001.out (x11_2 : Int) (of_decide_eq_true (by first | (with_reducible assumption) | assumption)) (of_decide_eq_true (by first | (with_reducible assumption) | assumption)); have HP65 := Kd.R_putg HO_266001.out (x11_2 : Int) t268)); try go_wp2_with (((with_reducible refine gate_store (t := 3) (p := 62) rfl ?_); (try (rw [drewN_self wr]; generalize hq_ : World.drewN wr _ = wr; have n0_ := Aside0.mk (Kd.R_at hq_ HO_266001.out); have n1_ := Aside0.mk (blk_at hq_ BK256.out); have n2_ := Aside0.mk (blk_at hq_ BK257.out); have n3_ := Aside0.mk (blk_at hq_ BK258.out); have n4_ := Aside0.mk (blk_at hq_ BK265.out); have n5_ := Aside0.mk (below_at hq_ HB.out); clear hq_ HO_266001 BK256 BK257 BK258 BK265 HB; have HO_266001 := n0_; have BK256 := n1_; have BK257 := n2_; have BK258 := n3_; have BK265 := n4_; have HB := n5_; clear n0_ n1_ n2_ n3_ n4_ n5_; (try (obtain ⟨hy65_, hz65_⟩ := Kd.R_celln 0 HO_266001.out (x11_2 : Int) (of_decide_eq_true (by first | (with_reducible assumption) | assumption)) (of_decide_eq_true (by first | (with_reducible assumption) | assumption)))); (try (have HP65 := Kd.R_putg HO_266001.out (x11_2 : Int) t268)))); refine store_event (t := 3) (p := 62) (v := ?vo_w66) (w1 := (wr.setCell ⟨go54, (x11_2 : Int).toNat, none⟩ (.int .i64 t268))) ?hg ?ho ?hn ?hr ?_; (case ho => rfl); (case hg => rfl); (case hn => rfl); (case hr => first | (go_simp; done) | (go_simp; rfl)); intro w66 hw; have hg : wr.grownBy w66 (some go54) := (by rw [hw]; exact HP65.2); have hp_ : Kd.R (Kd.int .i64) 3 w66 w.heap.size (fun _ => True) (.slice (some ⟨go54, 0, none⟩) x266001_2.length co54) y270 := (by rw [hw, Ny270.out]; exact HP65.1); clear HP65; have n0_ := Aside0.mk (hp_); have n1_ := Aside0.mk (blk_grown (g := gb256) (o := .cells #[.int .i64 a0_0, .slice (some ad266) l0_1.length c0_1] 29 (0, 0)) (mb BK256) hg (Kd.R_ne HO_266001.out BK256.out (by decide))); have n2_ := Aside0.mk (blk_grown (g := gb257) (o := .cells #[.int .i64 a2_0, .slice (some ad267) l2_1.length c2_1] 29 (0, 0)) (mb BK257) hg (Kd.R_ne HO_266001.out BK257.out (by decide))); have n3_ := Aside0.mk (blk_grown (g := gb258) (o := .cells #[.int .i64 0, .slice none 0 0] 29 (0, 0)) (mb BK258) hg (Kd.R_ne HO_266001.out BK258.out (by decide))); have n4_ := Aside0.mk (blk_grown (g := gb265) (o := .cells #[.int .i64 0, .slice (some ⟨go54, 0, none⟩) x266001_2.length co54] 29 (0, 0)) (mb BK265) hg (Kd.R_ne HO_266001.out BK265.out (by decide))); have n5_ := Aside0.mk ((by rw [hw]; exact below_set (HB.out) GB54.out : Below w.heap.size w w66)); clear HO_266001 BK256 BK257 BK258 BK265 HB; have HO_266001 := n0_; have BK256 := n1_; have BK257 := n2_; have BK258 := n3_; have BK265 := n4_; have HB := n5_; clear n0_ n1_ n2_ n3_ n4_ n5_; clear hg hw hp_)))
             go_roundg k2
             case measure => have := HJ3.out; have := HK2.out; omega
             case rel => exact ⟨(t269), (wrap64 (x11_2 + 1)), (y270), (.slice (some ⟨go54, 0, none⟩) x266001_2.length co54), (by first | rfl | (simp; done) | (simp [*]; done)), (by first | rfl | (simp; done) | (simp [*]; done)), H', ⟨by have := HJ3.out; have := HK2.out; omega⟩, ⟨by (with_reducible repeat (first | apply Kd.R_alloc | apply Kd.R_drewN | apply Kd.R_drew)); exact HO_266001.out⟩, ⟨mb BK256⟩, ⟨mb BK257⟩, ⟨mb BK258⟩, ⟨mb BK265⟩, ⟨ms HB⟩⟩
            replace c55 := Bool.eq_false_iff.mpr c55
            subst c55
            rw [if_neg (show ¬ (false = true) by decide)] at H
            have H' := Aside0.mk H
            clear H
            have := NB256_257.out
            have := NB257_256.out
            have := NB256_258.out
            have := NB258_256.out
            have := NB256_265.out
            have := NB265_256.out
            obtain ⟨_, _, _, _⟩ := cFour BK256
            have p266 : 0 ≤ (x11_2 : Int) := of_decide_eq_true (by first | (with_reducible assumption) | assumption)
            have q266 : x11_2 < (l0_1.length : Int) := of_decide_eq_true (by first | (with_reducible assumption) | assumption)
            obtain ⟨ad266, e266, hx266_0⟩ := Kd.at_int HR0_1.out x11_2 p266 q266
            cases e266
            replace hx266_0 := (HB.out.cell (World.block_lt_of_cell? w _ hx266_0)).trans hx266_0
            replace p266 := eq_true p266
            replace q266 := eq_true q266
            have := NB257_258.out
            have := NB258_257.out
            have := NB257_265.out
            have := NB265_257.out
            obtain ⟨_, _, _, _⟩ := cFour BK257
            have p267 : 0 ≤ (x11_2 : Int) := of_decide_eq_true (by first | (with_reducible assumption) | assumption)
            have q267 : x11_2 < (l2_1.length : Int) := of_decide_eq_true (by first | (with_reducible assumption) | assumption)
            obtain ⟨ad267, e267, hx267_0⟩ := Kd.at_int HR2_1.out x11_2 p267 q267
            cases e267
            replace hx267_0 := (HB.out.cell (World.block_lt_of_cell? w _ hx267_0)).trans hx267_0
            replace p267 := eq_true p267
            replace q267 := eq_true q267
            go_wp2_with (fail)
            repeat (go_quiet ((go_at_call 130; (with_reducible refine (spec_l4Sum.calls (rd l0_1 x11_2) a1 (rd l2_1 x11_2) t268 t269 _ A52.out).mono ?_); rintro e w' ⟨rfl, ⟨nd, rfl⟩⟩; (try first | exact ⟨rfl, _, World.drewN_drewN _ _ _⟩ | exact ⟨rfl, _, Eq.trans (World.drewN_drewN _ _ _) (congrArg (World.drewN _) (Nat.add_assoc _ _ _))⟩); have := NB265_258.out; have := NB258_265.out; obtain ⟨_, _, _, _⟩ := cFour BK265; have p54 : 0 ≤ (x11_2 : Int) := of_decide_eq_true (by first | (with_reducible assumption) | assumption); have q54 : (x11_2 : Int) < ((x266001_2.length : Int) : Int) := of_decide_eq_true (by first | (with_reducible assumption) | assumption); obtain ⟨go54, co54, eo54, gb54, gl54, cl54, HG54⟩ := Kd.R_form HO_266001.out (by omega); (first | cases eo54 | (injection eo54 with ea_ en_ ec_; (first | subst ea_ | (injection ea_ with ea_; subst ea_)); subst ec_; clear en_)); have GB54 := Aside0.mk gb54; have GG54 := Aside0.mk HG54; clear gb54 gl54 HG54; obtain ⟨hx54_0, hf54_0⟩ := Kd.R_celln 0 HO_266001.out (x11_2 : Int) p54 q54; replace p54 := eq_true p54; replace q54 := eq_true q54; obtain ⟨hy76_, hz76_⟩ := Kd.R_celln 0 HO_266001.out (x11_2 : Int) (of_decide_eq_true (by first | (with_reducible assumption) | assumption)) (of_decide_eq_true (by first | (with_reducible assumption) | assumption)); have HP76 := Kd.R_putg HO_266001.out (x11_2 : Int) t268)); try go_wp2_with (((with_reducible refine gate_store (t := 3) (p := 62) rfl ?_); (try (rw [drewN_self wr]; generalize hq_ : World.drewN wr _ = wr; have n0_ := Aside0.mk (Kd.R_at hq_ HO_266001.out); have n1_ := Aside0.mk (blk_at hq_ BK256.out); have n2_ := Aside0.mk (blk_at hq_ BK257.out); have n3_ := Aside0.mk (blk_at hq_ BK258.out); have n4_ := Aside0.mk (blk_at hq_ BK265.out); have n5_ := Aside0.mk (below_at hq_ HB.out); clear hq_ HO_266001 BK256 BK257 BK258 BK265 HB; have HO_266001 := n0_; have BK256 := n1_; have BK257 := n2_; have BK258 := n3_; have BK265 := n4_; have HB := n5_; clear n0_ n1_ n2_ n3_ n4_ n5_; (try (obtain ⟨hy76_, hz76_⟩ := Kd.R_celln 0 HO_266001.out (x11_2 : Int) (of_decide_eq_true (by first | (with_reducible assumption) | assumption)) (of_decide_eq_true (by first | (with_reducible assumption) | assumption)))); (try (have HP76 := Kd.R_putg HO_266001.out (x11_2 : Int) t268)))); refine store_event (t := 3) (p := 62) (v := ?vo_w77) (w1 := (wr.setCell ⟨go54, (x11_2 : Int).toNat, none⟩ (.int .i64 t268))) ?hg ?ho ?hn ?hr ?_; (case ho => rfl); (case hg => rfl); (case hn => rfl); (case hr => first | (go_simp; done) | (go_simp; rfl)); intro w77 hw; have hg : wr.grownBy w77 (some go54) := (by rw [hw]; exact HP76.2); have hp_ : Kd.R (Kd.int .i64) 3 w77 w.heap.size (fun _ => True) (.slice (some ⟨go54, 0, none⟩) x266001_2.length co54) y270 := (by rw [hw, Ny270.out]; exact HP76.1); clear HP76; have n0_ := Aside0.mk (hp_); have n1_ := Aside0.mk (blk_grown (g := gb256) (o := .cells #[.int .i64 a0_0, .slice (some ad266) l0_1.length c0_1] 29 (0, 0)) (mb BK256) hg (Kd.R_ne HO_266001.out BK256.out (by decide))); have n2_ := Aside0.mk (blk_grown (g := gb257) (o := .cells #[.int .i64 a2_0, .slice (some ad267) l2_1.length c2_1] 29 (0, 0)) (mb BK257) hg (Kd.R_ne HO_266001.out BK257.out (by decide))); have n3_ := Aside0.mk (blk_grown (g := gb258) (o := .cells #[.int .i64 0, .slice none 0 0] 29 (0, 0)) (mb BK258) hg (Kd.R_ne HO_266001.out BK258.out (by decide))); have n4_ := Aside0.mk (blk_grown (g := gb265) (o := .cells #[.int .i64 0, .slice (some ⟨go54, 0, none⟩) x266001_2.length co54] 29 (0, 0)) (mb BK265) hg (Kd.R_ne HO_266001.out BK265.out (by decide))); have n5_ := Aside0.mk ((by rw [hw]; exact below_set (HB.out) GB54.out : Below w.heap.size w w77)); clear HO_266001 BK256 BK257 BK258 BK265 HB; have HO_266001 := n0_; have BK256 := n1_; have BK257 := n2_; have BK258 := n3_; have BK265 := n4_; have HB := n5_; clear n0_ n1_ n2_ n3_ n4_ n5_; clear hg hw hp_)))
            go_roundg k2
            case measure => have := HJ3.out; have := HK2.out; omega
            case rel => exact ⟨(false), (wrap64 (x11_2 + 1)), (y270), (.slice (some ⟨go54, 0, none⟩) x266001_2.length co54), (by first | rfl | (simp; done) | (simp [*]; done)), (by first | rfl | (simp; done) | (simp [*]; done)), H', ⟨by have := HJ3.out; have := HK2.out; omega⟩, ⟨by (with_reducible repeat (first | apply Kd.R_alloc | apply Kd.R_drewN | apply Kd.R_drew)); exact HO_266001.out⟩, ⟨mb BK256⟩, ⟨mb BK257⟩, ⟨mb BK258⟩, ⟨mb BK265⟩, ⟨ms HB⟩⟩
           rw [if_neg c53] at H
           exact absurd H (by simp)
          rw [if_neg c51] at H
          exact absurd H (by simp)
         rw [if_neg c50] at H
         exact absurd H (by simp)
        rw [if_neg c49] at H
        exact absurd H (by simp)
       rw [if_neg c48] at H
       have c48b0 : decide (x11_2 < (l0_1.length : Int)) = false := decide_eq_false c48
       clear c48
       obtain ⟨⟨t271, t272⟩, A780, H⟩ := Option.bind_eq_some_iff.mp H
       try dsimp only at H
       have A78 := Aside0.mk A780; clear A780
       by_cases c79 : x10_2 = true
       ·subst c79
        rw [if_pos rfl] at H
        by_cases c80 : t272 = true
        ·subst c80
         rw [if_pos rfl] at H
         simp only [Option.some.injEq, Prod.mk.injEq] at H
         obtain ⟨rfl, rfl, rfl⟩ := H
         have := NB256_257.out
         have := NB257_256.out
         have := NB256_258.out
         have := NB258_256.out
         have := NB256_265.out
         have := NB265_256.out
         obtain ⟨_, _, _, _⟩ := cFour BK256
         have := NB257_258.out
         have := NB258_257.out
         have := NB257_265.out
         have := NB265_257.out
         obtain ⟨_, _, _, _⟩ := cFour BK257
         go_wp2_with ((go_at_call 130; (with_reducible refine (spec_l4Sum.calls a0_0 a1 a2_0 t271 true _ A78.out).mono ?_); rintro e w' ⟨rfl, ⟨nd, rfl⟩⟩; (try first | exact ⟨rfl, _, World.drewN_drewN _ _ _⟩ | exact ⟨rfl, _, Eq.trans (World.drewN_drewN _ _ _) (congrArg (World.drewN _) (Nat.add_assoc _ _ _))⟩); have := NB265_258.out; have := NB258_265.out; obtain ⟨_, _, _, _⟩ := cFour BK265; obtain ⟨_, _, _, _⟩ := cFour BK258; obtain ⟨Ao91, co91, eo91⟩ := Kd.R_slice HO_266001.out; subst eo91))
         repeat (go_quiet (fail); try go_wp2_with (fail))
         refine bodyPost_ret (results_ct rfl _ _ gb258 29 #[.int .i64 t271, .slice Ao91 x266001_2.length co91] (0, 0) _ rfl (by (with_reducible repeat (first | refine blk_drewN ?_ _ | refine blk_drew ?_ | refine blk_alloc ?_ _)); refine blk_put (cs := #[.int .i64 t271, .slice none 0 0]) ?_ 1 _ rfl; (with_reducible repeat (first | refine blk_drewN ?_ _ | refine blk_drew ?_ | refine blk_alloc ?_ _)); refine blk_put (cs := #[.int .i64 0, .slice none 0 0]) ?_ 0 _ rfl; (with_reducible repeat (first | refine blk_drewN ?_ _ | refine blk_drew ?_ | refine blk_alloc ?_ _)); refine blk_far ?_ NB258_265.out _; (with_reducible repeat (first | refine blk_drewN ?_ _ | refine blk_drew ?_ | refine blk_alloc ?_ _)); exact BK258.out) Try.underlying29 rfl (by kernel_rfl)) rfl ?_
         exact ⟨_, by first | rfl | (simp [errW_none, errW_some] <;> rfl) | (simp [*, errW_none, errW_some] <;> rfl), by (with_reducible repeat (first | apply Kd.R_alloc | apply Kd.R_drewN | apply Kd.R_drew)); exact Kd.R_mono (Kd.R_far (p := ⟨gb258, 1, none⟩) (Kd.R_far (p := ⟨gb258, 0, none⟩) (Kd.R_far (p := ⟨gb265, 0, none⟩) (Kd.R_types (Kd.R_types HO_266001.out BK265.out (by decide)) BK258.out (by decide)) (fun _ hk => hk.1.2) (.int .i64 t271)) (fun _ hk => hk.2) (.int .i64 t271)) (fun _ hk => hk.2) (.slice Ao91 x266001_2.length co91)) (fun _ hk => trivial), ms HB⟩
        replace c80 := Bool.eq_false_iff.mpr c80
        subst c80
        rw [if_neg (show ¬ (false = true) by decide)] at H
        simp only [Option.some.injEq, Prod.mk.injEq] at H
        obtain ⟨rfl, rfl, rfl⟩ := H
        have := NB256_257.out
        have := NB257_256.out
        have := NB256_258.out
        have := NB258_256.out
        have := NB256_265.out
        have := NB265_256.out
        obtain ⟨_, _, _, _⟩ := cFour BK256
        have := NB257_258.out
        have := NB258_257.out
        have := NB257_265.out
        have := NB265_257.out
        obtain ⟨_, _, _, _⟩ := cFour BK257
        go_wp2_with ((go_at_call 130; (with_reducible refine (spec_l4Sum.calls a0_0 a1 a2_0 t271 false _ A78.out).mono ?_); rintro e w' ⟨rfl, ⟨nd, rfl⟩⟩; (try first | exact ⟨rfl, _, World.drewN_drewN _ _ _⟩ | exact ⟨rfl, _, Eq.trans (World.drewN_drewN _ _ _) (congrArg (World.drewN _) (Nat.add_assoc _ _ _))⟩); have := NB258_265.out; have := NB265_258.out; obtain ⟨_, _, _, _⟩ := cFour BK258))
        repeat (go_quiet (fail); try go_wp2_with (fail))
        refine bodyPost_ret (results_ct rfl _ _ gb258 29 #[.int .i64 0, .slice none 0 0] (0, 0) _ rfl (mq BK258) Try.underlying29 rfl (by kernel_rfl)) rfl ?_
        exact ⟨_, by first | rfl | (simp [errW_none, errW_some] <;> rfl) | (simp [*, errW_none, errW_some] <;> rfl), by first | exact Kd.R_nil _ _ _ _ _ | exact Kd.N_nil _ _ _ _ _ | exact Kd.V_nil _ _ _ _ _ | exact Kd.Q_nil _ _ _ _ _ | exact Kd.S_nil _ _ _ _ _, ms HB⟩
       replace c79 := Bool.eq_false_iff.mpr c79
       subst c79
       rw [if_neg (show ¬ (false = true) by decide)] at H
       simp only [Option.some.injEq, Prod.mk.injEq] at H
       obtain ⟨rfl, rfl, rfl⟩ := H
       have := NB256_257.out
       have := NB257_256.out
       have := NB256_258.out
       have := NB258_256.out
       have := NB256_265.out
       have := NB265_256.out
       obtain ⟨_, _, _, _⟩ := cFour BK256
       have := NB257_258.out
       have := NB258_257.out
       have := NB257_265.out
       have := NB265_257.out
       obtain ⟨_, _, _, _⟩ := cFour BK257
       go_wp2_with ((go_at_call 130; (with_reducible refine (spec_l4Sum.calls a0_0 a1 a2_0 t271 t272 _ A78.out).mono ?_); rintro e w' ⟨rfl, ⟨nd, rfl⟩⟩; (try first | exact ⟨rfl, _, World.drewN_drewN _ _ _⟩ | exact ⟨rfl, _, Eq.trans (World.drewN_drewN _ _ _) (congrArg (World.drewN _) (Nat.add_assoc _ _ _))⟩); have := NB258_265.out; have := NB265_258.out; obtain ⟨_, _, _, _⟩ := cFour BK258))
       repeat (go_quiet (fail); try go_wp2_with (fail))
       refine bodyPost_ret (results_ct rfl _ _ gb258 29 #[.int .i64 0, .slice none 0 0] (0, 0) _ rfl (mq BK258) Try.underlying29 rfl (by kernel_rfl)) rfl ?_
       exact ⟨_, by first | rfl | (simp [errW_none, errW_some] <;> rfl) | (simp [*, errW_none, errW_some] <;> rfl), by first | exact Kd.R_nil _ _ _ _ _ | exact Kd.N_nil _ _ _ _ _ | exact Kd.V_nil _ _ _ _ _ | exact Kd.Q_nil _ _ _ _ _ | exact Kd.S_nil _ _ _ _ _, ms HB⟩
    rw [if_neg c39] at H
    exact absurd H (by simp)
   rw [if_neg c38] at H
   exact absurd H (by simp)

/-! ### spec_ConstLin: function 82 -/
def spec_ConstLin.f (a0 : Int) (a1 : Int) : Option (Int × List Int) := (spec_l1In.f a1 0 8).bind fun t274 => (if t274 = true then ((spec_l3In.f a0).bind fun t275 => (if t275 = true then (if 0 ≤ a1 then (if (a1 : Int).toNat ≤ 35184372088832 then (some (a0, (List.replicate (a1 : Int).toNat 0))) else (none)) else (none)) else (some (0, ([] : List Int))))) else (some (0, ([] : List Int))))
set_option maxHeartbeats 8000000 in
set_option maxRecDepth 100000 in
theorem spec_ConstLin.calls (a0 : Int) (a1 : Int) (r1 : Int) (r2 : List Int) (w : World) (h : spec_ConstLin.f a0 a1 = some (r1, r2)) :
  Calls Try.prog 82 #[.int .i64 a0, .int .i64 a1] w fun e w' => ∃ v1_ : Value, e = .returned (.agg #[.int .i64 r1, v1_]) ∧ Kd.R (Kd.int .i64) 3 w' w.heap.size (fun _ => True) v1_ r2 ∧ Below w.heap.size w w' := by
 have hu29 := Try.underlying29
 have HB := Aside0.mk (Below.refl w.heap.size w)
 have H : ((spec_l1In.f a1 0 8).bind fun t274 => (if t274 = true then ((spec_l3In.f a0).bind fun t275 => (if t275 = true then (if 0 ≤ a1 then (if (a1 : Int).toNat ≤ 35184372088832 then (some (a0, (List.replicate (a1 : Int).toNat 0))) else (none)) else (none)) else (some (0, ([] : List Int))))) else (some (0, ([] : List Int))))) = some (r1, r2) := h
 clear h
 obtain ⟨t274, A30, H⟩ := Option.bind_eq_some_iff.mp H
 try dsimp only at H
 have A3 := Aside0.mk A30; clear A30
 by_cases c4 : t274 = true
 ·subst c4
  rw [if_pos rfl] at H
  obtain ⟨t275, A50, H⟩ := Option.bind_eq_some_iff.mp H
  try dsimp only at H
  have A5 := Aside0.mk A50; clear A50
  by_cases c6 : t275 = true
  ·subst c6
   rw [if_pos rfl] at H
   by_cases c7 : 0 ≤ a1
   ·rw [if_pos c7] at H
    have c7b0 := eq_true c7
    have c7b1 : decide (0 ≤ a1) = true := decide_eq_true c7
    clear c7
    by_cases c8 : (a1 : Int).toNat ≤ 35184372088832
    ·rw [if_pos c8] at H
     have c8b0 := eq_true c8
     have c8b1 : decide ((a1 : Int).toNat ≤ 35184372088832) = true := decide_eq_true c8
     clear c8
     obtain ⟨y276, hy276⟩ : ∃ y_ : List Int, y_ = (List.replicate (a1 : Int).toNat 0) := ⟨_, rfl⟩
     replace H : (some (a0, y276)) = some (r1, r2) := by first | (rw [hy276]; with_reducible exact H) | (have H2_ := (Option.bind_some _ _).symm.trans H; rw [hy276]; with_reducible exact H2_) | (have H2_ := (Option.bind_some _ _).symm.trans H; with_reducible exact H2_) | with_reducible exact H | (rw [hy276]; exact H) | exact H
     have Ny276 := Aside0.mk hy276; clear hy276
     simp only [Option.some.injEq, Prod.mk.injEq] at H
     obtain ⟨rfl, rfl⟩ := H
     go_enter Try.func82, Try.ntmps82
     go_wp2_with (first | ((with_reducible refine gate_dst (N := 4) rfl ?_); refine box_event ?hg (N := 4) ?hd (cs := #[.int .i64 0, .slice none 0 0]) (t := 29) ?hr ?_; (case hd => rfl); (case hg => rfl); (case hr => first | (go_simp; done) | (go_simp; rfl)); intro gb273 hg w9 hbox hb; have BK273 := Aside0.mk (hbox); have GW273 := gw hg HB; have GE273 := gw hg HB; replace HB := bs HB hb; clear hb hbox hg) | ((with_reducible refine gate_callee (f := 85) rfl ?_); refine gl (some 6) rfl rfl Try.func85 (by kernel_rfl) rfl #[.int .i64 a1, .int .i64 0, .int .i64 8] rfl ?_; (with_reducible refine (spec_l1In.calls a1 0 8 true _ A3.out).mono ?_); rintro e w' ⟨rfl, ⟨nd, rfl⟩⟩; refine ⟨_, rfl, ?_⟩; (try (rw [drewN_self w9]; generalize hq_ : World.drewN w9 _ = w9; have n0_ : Aside0 (w9.heap[gb273]? = some (.cells #[.int .i64 0, .slice none 0 0] 29 (0, 0))) := ⟨by rw [← hq_]; exact (mb BK273)⟩; have n1_ : Aside0 (Below w.heap.size w w9) := ⟨by rw [← hq_]; exact (ms HB)⟩; clear BK273 HB hq_; have BK273 := n0_; have HB := n1_; clear n0_ n1_))) | (go_at_call 129; (with_reducible refine (spec_l3In.calls a0 true _ A5.out).mono ?_); rintro e w' ⟨rfl, ⟨nd, rfl⟩⟩; (try (rw [drewN_self w9]; generalize hq_ : World.drewN w9 _ = w9; have n0_ : Aside0 (w9.heap[gb273]? = some (.cells #[.int .i64 0, .slice none 0 0] 29 (0, 0))) := ⟨by rw [← hq_]; exact (mb BK273)⟩; have n1_ : Aside0 (Below w.heap.size w w9) := ⟨by rw [← hq_]; exact (ms HB)⟩; clear BK273 HB hq_; have BK273 := n0_; have HB := n1_; clear n0_ n1_))) | ((with_reducible refine gate_dst (N := 16) rfl ?_); refine Kd.R_make (Kd.int .i64) _ 3 rfl (N := 16) rfl 27 _ _ rfl a1 rfl rfl Try.underlying27 (.int .i64 0) 8 info3 rfl (by decide) (by omega) 0 (ok := fun _ => True) (okp := fun _ => True) rfl (fun _ hk => hk) trivial (of_decide_eq_true (by first | (with_reducible assumption) | assumption)) (Nat.le_trans (Nat.mul_le_mul_right _ (of_decide_eq_true (by first | (with_reducible assumption) | assumption) : a1.toNat ≤ 35184372088832)) (by omega)) (Below.refl _ _) (Nat.le_refl _) ?_; intro v277 w10 ho11 hb hg_ hnew_; clear hg_ hnew_; (first | rw [← Ny276.out] at ho11 | (simp only [Int.reduceToNat] at ho11; rw [← Ny276.out] at ho11)); have HO278 := Aside0.mk (Kd.R_lower ho11 (below_size (ms HB))); replace BK273 := bb BK273 hb; replace HB := bs HB hb; clear hb ho11; obtain ⟨Ao12, co12, eo12⟩ := Kd.R_slice HO278.out; subst eo12; obtain ⟨_, _, _, _⟩ := cFour BK273))
     refine bodyPost_ret (results_cell_row rfl _ _ gb273 29 #[.int .i64 a0, .slice Ao12 y276.length co12] (0, 0) _ rfl (mq BK273) Try.underlying29 rfl (by kernel_rfl)) rfl ?_
     exact ⟨_, by first | rfl | (simp [errW_none, errW_some] <;> rfl) | (simp [*, errW_none, errW_some] <;> rfl), by (with_reducible repeat (first | apply Kd.R_alloc | apply Kd.R_drewN | apply Kd.R_drew)); exact Kd.R_mono (Kd.R_far (p := ⟨gb273, 1, none⟩) (Kd.R_far (p := ⟨gb273, 0, none⟩) (Kd.R_types HO278.out BK273.out (by decide)) (fun _ hk => hk.2) (.int .i64 a0)) (fun _ hk => hk.2) (.slice Ao12 y276.length co12)) (fun _ hk => trivial), ms HB⟩
    rw [if_neg c8] at H
    exact absurd H (by simp)
   rw [if_neg c7] at H
   exact absurd H (by simp)
  replace c6 := Bool.eq_false_iff.mpr c6
  subst c6
  rw [if_neg (show ¬ (false = true) by decide)] at H
  simp only [Option.some.injEq, Prod.mk.injEq] at H
  obtain ⟨rfl, rfl⟩ := H
  go_enter Try.func82, Try.ntmps82
  go_wp2_with (first | ((with_reducible refine gate_dst (N := 4) rfl ?_); refine box_event ?hg (N := 4) ?hd (cs := #[.int .i64 0, .slice none 0 0]) (t := 29) ?hr ?_; (case hd => rfl); (case hg => rfl); (case hr => first | (go_simp; done) | (go_simp; rfl)); intro gb273 hg w14 hbox hb; have BK273 := Aside0.mk (hbox); have GW273 := gw hg HB; have GE273 := gw hg HB; replace HB := bs HB hb; clear hb hbox hg) | ((with_reducible refine gate_callee (f := 85) rfl ?_); refine gl (some 6) rfl rfl Try.func85 (by kernel_rfl) rfl #[.int .i64 a1, .int .i64 0, .int .i64 8] rfl ?_; (with_reducible refine (spec_l1In.calls a1 0 8 true _ A3.out).mono ?_); rintro e w' ⟨rfl, ⟨nd, rfl⟩⟩; refine ⟨_, rfl, ?_⟩; (try (rw [drewN_self w14]; generalize hq_ : World.drewN w14 _ = w14; have n0_ : Aside0 (w14.heap[gb273]? = some (.cells #[.int .i64 0, .slice none 0 0] 29 (0, 0))) := ⟨by rw [← hq_]; exact (mb BK273)⟩; have n1_ : Aside0 (Below w.heap.size w w14) := ⟨by rw [← hq_]; exact (ms HB)⟩; clear BK273 HB hq_; have BK273 := n0_; have HB := n1_; clear n0_ n1_))) | (go_at_call 129; (with_reducible refine (spec_l3In.calls a0 false _ A5.out).mono ?_); rintro e w' ⟨rfl, ⟨nd, rfl⟩⟩; (try (rw [drewN_self w14]; generalize hq_ : World.drewN w14 _ = w14; have n0_ : Aside0 (w14.heap[gb273]? = some (.cells #[.int .i64 0, .slice none 0 0] 29 (0, 0))) := ⟨by rw [← hq_]; exact (mb BK273)⟩; have n1_ : Aside0 (Below w.heap.size w w14) := ⟨by rw [← hq_]; exact (ms HB)⟩; clear BK273 HB hq_; have BK273 := n0_; have HB := n1_; clear n0_ n1_)); obtain ⟨_, _, _, _⟩ := cFour BK273))
  refine bodyPost_ret (results_cell_row rfl _ _ gb273 29 #[.int .i64 0, .slice none 0 0] (0, 0) _ rfl (mq BK273) Try.underlying29 rfl (by kernel_rfl)) rfl ?_
  exact ⟨_, by first | rfl | (simp [errW_none, errW_some] <;> rfl) | (simp [*, errW_none, errW_some] <;> rfl), by first | exact Kd.R_nil _ _ _ _ _ | exact Kd.N_nil _ _ _ _ _ | exact Kd.V_nil _ _ _ _ _ | exact Kd.Q_nil _ _ _ _ _ | exact Kd.S_nil _ _ _ _ _, ms HB⟩
 replace c4 := Bool.eq_false_iff.mpr c4
 subst c4
 rw [if_neg (show ¬ (false = true) by decide)] at H
 simp only [Option.some.injEq, Prod.mk.injEq] at H
 obtain ⟨rfl, rfl⟩ := H
 go_enter Try.func82, Try.ntmps82
 go_wp2_with (first | ((with_reducible refine gate_dst (N := 4) rfl ?_); refine box_event ?hg (N := 4) ?hd (cs := #[.int .i64 0, .slice none 0 0]) (t := 29) ?hr ?_; (case hd => rfl); (case hg => rfl); (case hr => first | (go_simp; done) | (go_simp; rfl)); intro gb273 hg w16 hbox hb; have BK273 := Aside0.mk (hbox); have GW273 := gw hg HB; have GE273 := gw hg HB; replace HB := bs HB hb; clear hb hbox hg) | ((with_reducible refine gate_callee (f := 85) rfl ?_); refine gl (some 6) rfl rfl Try.func85 (by kernel_rfl) rfl #[.int .i64 a1, .int .i64 0, .int .i64 8] rfl ?_; (with_reducible refine (spec_l1In.calls a1 0 8 false _ A3.out).mono ?_); rintro e w' ⟨rfl, ⟨nd, rfl⟩⟩; refine ⟨_, rfl, ?_⟩; (try (rw [drewN_self w16]; generalize hq_ : World.drewN w16 _ = w16; have n0_ : Aside0 (w16.heap[gb273]? = some (.cells #[.int .i64 0, .slice none 0 0] 29 (0, 0))) := ⟨by rw [← hq_]; exact (mb BK273)⟩; have n1_ : Aside0 (Below w.heap.size w w16) := ⟨by rw [← hq_]; exact (ms HB)⟩; clear BK273 HB hq_; have BK273 := n0_; have HB := n1_; clear n0_ n1_)); obtain ⟨_, _, _, _⟩ := cFour BK273))
 refine bodyPost_ret (results_cell_row rfl _ _ gb273 29 #[.int .i64 0, .slice none 0 0] (0, 0) _ rfl (mq BK273) Try.underlying29 rfl (by kernel_rfl)) rfl ?_
 exact ⟨_, by first | rfl | (simp [errW_none, errW_some] <;> rfl) | (simp [*, errW_none, errW_some] <;> rfl), by first | exact Kd.R_nil _ _ _ _ _ | exact Kd.N_nil _ _ _ _ _ | exact Kd.V_nil _ _ _ _ _ | exact Kd.Q_nil _ _ _ _ _ | exact Kd.S_nil _ _ _ _ _, ms HB⟩

mutual
def spec_CombineRows.j0 : Nat → List Int → Bool → Int → List (S29) → Option (Int × List Int × Bool)
 | 0, _, _, _, _ => none
 | k + 1, x1, x20, x317000, x317001 => if x20 = true then (some (0, ([] : List Int), false)) else ((spec_ConstLin.f 0 x317000).bind fun bt319 => (spec_CombineRows.l0 k x1 0 x317000 x317001 bt319.1 bt319.2))
def spec_CombineRows.l0 : Nat → List Int → Int → Int → List (S29) → Int → List Int → Option (Int × List Int × Bool)
 | 0, _, _, _, _, _, _ => none
 | k + 1, x1, x7, x317000, x317001, x324000, x324001 => if x7 < (x1.length : Int) then (if 0 ≤ x7 then (if x7 < (x317001.length : Int) then ((spec_AddScaled.f k x324000 x324001 (rd x1 x7) ((rd_T29 x317001 x7).f0) ((rd_T29 x317001 x7).f1)).bind fun bt326 => (if bt326.2.2 = true then (if (rd x1 x7) < 0 then (some (0, ([] : List Int), false)) else (spec_CombineRows.l0 k x1 (wrap64 (x7 + 1)) x317000 x317001 bt326.1 bt326.2.1)) else (some (0, ([] : List Int), false)))) else (none)) else (none)) else (some (x324000, x324001, true))
end
def spec_CombineRows.f (k : Nat) (a0_0 : Int) (l0_1 : List (S29)) (l1 : List Int) : Option (Int × List Int × Bool) := (spec_IsValidSystem.f k a0_0 l0_1).bind fun t318 => (if t318 = true then (spec_CombineRows.j0 k l1 ((l1.length : Int) != (l0_1.length : Int)) a0_0 l0_1) else (spec_CombineRows.j0 k l1 true a0_0 l0_1))
theorem spec_CombineRows.mono_l : ∀ k, (∀ y0 y1 y2 y3, LeO (spec_CombineRows.j0 k y0 y1 y2 y3) (spec_CombineRows.j0 (k + 1) y0 y1 y2 y3)) ∧ (∀ y0 y1 y2 y3 y4 y5, LeO (spec_CombineRows.l0 k y0 y1 y2 y3 y4 y5) (spec_CombineRows.l0 (k + 1) y0 y1 y2 y3 y4 y5))
 | 0 => ⟨fun _ _ _ _ r h => by simp [spec_CombineRows.j0] at h, fun _ _ _ _ _ _ r h => by simp [spec_CombineRows.l0] at h⟩
 | k + 1 => by
  obtain ⟨ih0, ih1⟩ := spec_CombineRows.mono_l k
  refine ⟨?_, ?_⟩
  ·intro y0 y1 y2 y3
   unfold spec_CombineRows.j0
   repeat' with_reducible first
   | exact ih0 _ _ _ _
   | exact ih1 _ _ _ _ _ _
   | exact spec_AddScaled.mono _ _ _ _ _ _
   | exact spec_IsValidSystem.mono _ _ _
   | exact LeO.refl _
   | exact LeO.none _
   | refine LeO.ite ?_ ?_
   | refine LeO.bind ?_ (fun _ => ?_)
  intro y0 y1 y2 y3 y4 y5
  unfold spec_CombineRows.l0
  repeat' with_reducible first
  | exact ih0 _ _ _ _
  | exact ih1 _ _ _ _ _ _
  | exact spec_AddScaled.mono _ _ _ _ _ _
  | exact spec_IsValidSystem.mono _ _ _
  | exact LeO.refl _
  | exact LeO.none _
  | refine LeO.ite ?_ ?_
  | refine LeO.bind ?_ (fun _ => ?_)
theorem spec_CombineRows.mono : ∀ a0 a1 a2 k, LeO (spec_CombineRows.f k a0 a1 a2) (spec_CombineRows.f (k + 1) a0 a1 a2) := by
 intro a0 a1 a2 k
 obtain ⟨ih0, ih1⟩ := spec_CombineRows.mono_l k
 unfold spec_CombineRows.f
 repeat' with_reducible first
 | exact ih0 _ _ _ _
 | exact ih1 _ _ _ _ _ _
 | exact spec_AddScaled.mono _ _ _ _ _ _
 | exact spec_IsValidSystem.mono _ _ _
 | exact LeO.refl _
 | exact LeO.none _
 | refine LeO.ite ?_ ?_
 | refine LeO.bind ?_ (fun _ => ?_)
theorem spec_CombineRows.j0_true {k : Nat} {a c d r} (H : spec_CombineRows.j0 k a true c d = some r) : r = (0, [], false) := by
 cases k with
 | zero => simp [spec_CombineRows.j0] at H
 | succ k => simpa [spec_CombineRows.j0] using H.symm
set_option maxHeartbeats 8000000 in
set_option maxRecDepth 100000 in
theorem spec_CombineRows.calls (k : Nat) (a0_0 : Int) (A0_1 : Option Addr) (c0_1 : Nat) (l0_1 : List (S29)) (A1 : Option Addr) (c1 : Nat) (l1 : List Int) (r1 : Int) (r2 : List Int) (r3 : Bool) (w : World) (hr0_1 : Kd.C k29 w A0_1 l0_1.length l0_1) (hc0_1 : l0_1.length ≤ c0_1) (hr1 : Kd.C (Kd.int .i64) w A1 l1.length l1) (hc1 : l1.length ≤ c1) (h : spec_CombineRows.f k a0_0 l0_1 l1 = some (r1, r2, r3)) :
  Calls Try.prog 33 #[.agg #[.int .i64 a0_0, .slice A0_1 l0_1.length c0_1], .slice A1 l1.length c1] w fun e w' => ∃ v1_ : Value, e = .returned (.tuple #[.agg #[.int .i64 r1, v1_], .bool r3]) ∧ Kd.R (Kd.int .i64) 3 w' w.heap.size (fun _ => True) v1_ r2 ∧ Below w.heap.size w w' := by
 have hu29 := Try.underlying29
 have hu26 := Try.underlying26
 unfold spec_CombineRows.f at h
 obtain ⟨b1, A1_, h⟩ := Option.bind_eq_some_iff.mp h
 have H1 := Aside0.mk A1_
 have H := Aside0.mk h
 have HR0_1 := Aside0.mk hr0_1
 have HC0_1 := Aside0.mk hc0_1
 have HR1 := Aside0.mk hr1
 have HC1 := Aside0.mk hc1
 clear hr0_1 hc0_1 hr1 hc1 h A1_
 have HB := Aside0.mk (Below.refl w.heap.size w)
 go_enter Try.func33, Try.ntmps33
 go_upto_region 1 with (first | ((with_reducible refine gate_dst (N := 2) rfl ?_); refine box_event ?hg (N := 2) ?hd (cs := #[.int .i64 a0_0, .slice A0_1 l0_1.length c0_1]) (t := 26) ?hr ?_; (case hd => rfl); (case hg => rfl); (case hr => first | (go_simp; done) | (go_simp; rfl)); intro q2 hg_ wa hx_ hb_; have Gq2 := gw hg_ HB; replace HB := bs HB hb_; have X2 := Aside0.mk hx_; clear hg_ hx_ hb_) | ((with_reducible refine gate_dst (N := 4) rfl ?_); refine box_event ?hg (N := 4) ?hd (cs := #[.int .i64 0, .slice none 0 0]) (t := 29) ?hr ?_; (case hd => rfl); (case hg => rfl); (case hr => first | (go_simp; done) | (go_simp; rfl)); intro q4 hg_ wo hx_ hb_; have Gq4 := gw hg_ HB; replace X2 := bb X2 hb_; replace HB := bs HB hb_; have X4 := Aside0.mk hx_; clear hg_ hx_ hb_))
 have HB0 := HB
 clear HB
 replace HR0_1 := Aside0.mk (Kd.C_below HR0_1.out HB0.out)
 replace HR1 := Aside0.mk (Kd.C_below HR1.out HB0.out)
 obtain ⟨h20, h21⟩ := c2 X2
 have HB := Aside0.mk (Below.refl wo.heap.size wo)
 have h := H.out
 clear H
 by_cases hb1 : b1 = true
 ·subst hb1
  rw [if_pos rfl] at h
  by_cases hne : (l1.length : Int) = (l0_1.length : Int)
  ·have hnb : ((l1.length : Int) != (l0_1.length : Int)) = false := by rw [hne]; simp
   rw [hnb] at h
   cases k with
   | zero => simp [spec_CombineRows.j0] at h
   | succ k =>
    rw [spec_CombineRows.j0, if_neg (by decide)] at h
    obtain ⟨⟨t0, t0'⟩, A2, h⟩ := Option.bind_eq_some_iff.mp h
    have H2 : Aside0 (spec_ConstLin.f 0 a0_0 = some (t0, t0')) := ⟨A2⟩
    have H3 : Aside0 (spec_CombineRows.l0 k l1 0 a0_0 l0_1 t0 t0' = some (r1, r2, r3)) := ⟨h⟩
    clear h A2
    go_upto_region 4 with (first | (go_at_call 79; refine (spec_IsValidSystem.calls (k + 1) a0_0 A0_1 c0_1 l0_1 _ _ (Kd.C_below HR0_1.out HB.out) HC0_1.out H1.out).mono ?_; rintro e wp ⟨rfl, hb⟩; replace HB := bs HB hb; obtain ⟨h20, h21⟩ := c2 (Aside0.mk (blk_below X2.out HB.out)); clear hb) | (go_at_call 82; refine (spec_ConstLin.calls _ _ _ _ _ H2.out).mono ?_; rintro e wq ⟨v0, rfl, ho, hb⟩; obtain ⟨Az, cz, rfl⟩ := Kd.R_slice ho; have RZ := Aside0.mk (Kd.R_lower ho (below_size (ms HB))); replace HB := bs HB hb; clear ho hb) | ((with_reducible refine gate_dst (N := 6) rfl ?_); refine box_event ?hg (N := 6) ?hd (cs := #[.int .i64 0, .slice none 0 0]) (t := 29) ?hr ?_; (case hd => rfl); (case hg => rfl); (case hr => first | (go_simp; done) | (go_simp; rfl)); intro q6 hg_ w6 hx_ hb_; have Gq6 := gw hg_ HB; replace HB := bs HB hb_; have X6 := Aside0.mk hx_; replace RZ := rb RZ hb_; obtain ⟨hz0, hz1⟩ := c2 X6; have hf0 := blk_frozen X6.out 0; have hf1 := blk_frozen X6.out 1; clear hg_ hx_ hb_) | ((with_reducible refine gate_store (t := 29) (p := 6) rfl ?_); refine store_event (t := 29) (p := 6) (v := ?vo_s6) (w1 := (w6.setCell ⟨q6, 0, none⟩ (.int .i64 t0)).setCell ⟨q6, 1, none⟩ (.slice Az t0'.length cz)) ?hg ?ho ?hn ?hr ?_; (case ho => rfl); (case hg => rfl); (case hn => rfl); (case hr => first | (go_simp; done) | (go_simp; rfl)); intro w7 hw; have X6' : Aside0 (w7.heap[q6]? = some (.cells #[.int .i64 t0, .slice Az t0'.length cz] 29 (0, 0))) := ⟨by rw [hw]; exact put2 X6.out⟩; have RZ' : Aside0 (Kd.R (Kd.int .i64) 3 w7 wo.heap.size (fun _ => True) (.slice Az t0'.length cz) t0') := ⟨by rw [hw]; exact own2 RZ.out X6.out (by decide)⟩; have HB' : Aside0 (Below wo.heap.size wo w7) := ⟨by rw [hw]; exact below_set (below_set HB.out Gq6.out) Gq6.out⟩; clear hw RZ HB X6 hz0 hz1 hf0 hf1; have HB := HB'; clear HB'))
    clear hne hnb
    go_wp2
    go_loopg [7] k (fun kq v7 w' => ∃ (i o : Int) (o' : List Int) (Ao : Option Addr) (co : Nat), v7 = .int .i64 i ∧ Aside0 (spec_CombineRows.l0 kq l1 i a0_0 l0_1 o o' = some (r1, r2, r3)) ∧ Aside0 (kq ≤ k) ∧ Aside0 (w'.heap[q6]? = some (.cells #[.int .i64 o, .slice Ao o'.length co] 29 (0, 0))) ∧ Aside0 (Kd.R (Kd.int .i64) 3 w' wo.heap.size (fun _ => True) (.slice Ao o'.length co) o') ∧ Aside0 (Below wo.heap.size wo w'))
    case atStart => exact ⟨0, t0, t0', Az, cz, rfl, H3, ⟨Nat.le_refl _⟩, X6', RZ', HB⟩
    case round =>
     clear H3 X6' RZ' HB h20 h21
     obtain ⟨i, o, o', Ao, co, rfl, HA, HK, X6, RO, HB⟩ := hrel
     cases gk with
     | zero => exact absurd HA.out (by simp [spec_CombineRows.l0])
     | succ k1 =>
      have H := HA.out
      clear HA
      simp only [spec_CombineRows.l0] at H
      by_cases c3 : i < (l1.length : Int)
      ·rw [if_pos c3] at H
       by_cases c4 : 0 ≤ i
       ·rw [if_pos c4] at H
        by_cases c5 : i < (l0_1.length : Int)
        ·rw [if_pos c5] at H
         obtain ⟨⟨t1, t1', t1b⟩, A5, H⟩ := Option.bind_eq_some_iff.mp H
         have H5 := Aside0.mk A5
         have H6 := Aside0.mk H
         clear A5 H
         obtain ⟨ad, A2, c2_, rfl, hc0, hc1, hl1, hC⟩ := at_T29 (Kd.C_below HR0_1.out HB.out) i c4 c5
         obtain ⟨ad1, e1, hx1⟩ := Kd.at_int (Kd.C_below HR1.out HB.out) i c4 c3
         cases e1
         have HCr := Aside0.mk hC
         have HLr := Aside0.mk hl1
         clear hC hl1
         have c3b : decide (i < (l1.length : Int)) = true := decide_eq_true c3
         replace c3 := eq_true c3
         replace c4 := eq_true c4
         replace c5 := eq_true c5
         go_upto_region 7 with (fail)
         go_cut [8, 9] (fun v8 v9 wc => ∃ (g8 : Nat) (A1 : Option Addr) (c1 : Nat), v8 = .pointer (some ⟨g8, 0, none⟩) ∧ v9 = .bool t1b ∧ Aside0 (wc.heap[g8]? = some (.cells #[.int .i64 t1, .slice A1 t1'.length c1] 29 (0, 0))) ∧ Aside0 (Kd.R (Kd.int .i64) 3 wc wr.heap.size (fun _ => True) (.slice A1 t1'.length c1) t1') ∧ Aside0 (Below wr.heap.size wr wc))
         case first =>
          have HZ := Aside0.mk (Below.refl wr.heap.size wr)
          have SZ0 := Aside0.mk (Nat.le_refl wr.heap.size)
          go_region_held3 (fun w' => w'.cell? ⟨q6, 0, none⟩ = some (.int .i64 o) ∧ w'.cell? ⟨q6, 1, none⟩ = some (.slice Ao o'.length co) ∧ w'.cell? ⟨q2, 1, none⟩ = some (.slice (some ad) l0_1.length c0_1) ∧ w'.cell? (ad1.add i.toNat) = some (.int .i64 (rd l1 i)) ∧ w'.cell? (ad.add (i.toNat * 2)) = some (.int .i64 (rd_T29 l0_1 i).f0) ∧ w'.cell? ⟨(ad.add (i.toNat * 2)).block, (ad.add (i.toNat * 2)).off + 1, none⟩ = some (.slice A2 (rd_T29 l0_1 i).f1.length c2_))
           (exact ⟨(blk_cell (blk_below X6.out (ms HZ)) 0).trans rfl, (blk_cell (blk_below X6.out (ms HZ)) 1).trans rfl, (blk_cell (blk_below (blk_below X2.out HB.out) (ms HZ)) 1).trans rfl, ((ms HZ).cell (World.block_lt_of_cell? _ _ hx1)).trans hx1, ((ms HZ).cell (World.block_lt_of_cell? _ _ hc0)).trans hc0, ((ms HZ).cell (World.block_lt_of_cell? _ _ hc1)).trans hc1⟩)
           ((go_at_call 81; refine (spec_AddScaled.calls k1 o Ao co o' (rd l1 i) (rd_T29 l0_1 i).f0 A2 c2_ (rd_T29 l0_1 i).f1 t1 t1' t1b _ (mc (Kd.R_reads' RO.out).2.2) (Kd.R_reads' RO.out).2.1 (Kd.C_below HCr.out (ms HZ)) HLr.out H5.out).mono ?_; rintro e w2 ⟨v1, rfl, ho, hb⟩; obtain ⟨Ay, cy, rfl⟩ := Kd.R_slice ho; have RY := Aside0.mk (Kd.R_lower (Kd.R_mono ho (fun _ _ => trivial)) (below_size (ms HZ))); (first | have X8 := Aside0.mk (blk_below (heap_alloc_new _ _) hb) | have X8 := Aside0.mk (blk_below (blk_drew (heap_alloc_new _ _)) hb) | skip); replace HZ := bs HZ hb; (try (have hz0 := (blk_cell X8.out 0).trans (rfl : _ = some (Value.int .i64 0)); have hz1 := (blk_cell X8.out 1).trans (rfl : _ = some (Value.slice none 0 0)); have hf0 := blk_frozen X8.out 0; have hf1 := blk_frozen X8.out 1; (try simp only [World.drew] at hz0 hz1 hf0 hf1))); clear ho hb))
          all_goals go_wp2
          all_goals go_meet
          case rel => exact ⟨_, _, _, rfl, rfl, ⟨heap_alloc_new _ _⟩, ⟨Kd.R_alloc RY.out _⟩, ⟨below_alloc HZ.out _⟩⟩
          case rel => exact ⟨_, _, _, rfl, rfl, ⟨put2 X8.out⟩, ⟨own2 RY.out X8.out (by decide)⟩, ⟨below_set (below_set HZ.out SZ0.out) SZ0.out⟩⟩
         case rest =>
          obtain ⟨g8, Ay, cy, rfl, rfl, X8, RY, HZ⟩ := hcut
          replace hx1 := (HZ.out.cell (World.block_lt_of_cell? _ _ hx1)).trans hx1
          clear hc0 hc1 HCr HLr RO H5
          have h := H6.out
          clear H6
          have HBW := Aside0.mk (HB.out.trans (HZ.out.mono HB.out.size))
          cases t1b with
          | false =>
           obtain ⟨rfl, rfl, rfl⟩ : r1 = 0 ∧ r2 = [] ∧ r3 = false := by simpa [eq_comm] using h
           go_upto_region 9 with (fail)
           obtain ⟨hz0, hz1⟩ := c2 (Aside0.mk (blk_below X4.out HBW.out))
           have hzf0 := blk_frozen (blk_below X4.out HBW.out) 0
           have hzf1 := blk_frozen (blk_below X4.out HBW.out) 1
           go_wp2_with (((with_reducible refine gate_store (t := 29) (p := 4) rfl ?_); refine store_event (t := 29) (p := 4) (v := ?vo_z11) (w1 := (wc.setCell ⟨q4, 0, none⟩ (.int .i64 0)).setCell ⟨q4, 1, none⟩ (.slice none 0 0)) ?hg ?ho ?hn ?hr ?_; (case ho => rfl); (case hg => rfl); (case hn => rfl); (case hr => first | (go_simp; done) | (go_simp; rfl)); intro w9 hw; have X4' : Aside0 (w9.heap[q4]? = some (.cells #[.int .i64 0, .slice none 0 0] 29 (0, 0))) := ⟨by rw [hw]; exact put2 (blk_below X4.out HBW.out)⟩; have HB' : Aside0 (Below w.heap.size w w9) := ⟨by rw [hw]; exact below_set (below_set (HB0.out.trans (HBW.out.mono HB0.out.size)) Gq4.out) Gq4.out⟩; clear hw))
           refine bodyPost_ret (results_ct rfl _ _ q4 29 #[.int .i64 0, .slice none 0 0] (0, 0) _ rfl X4'.out Try.underlying29 rfl (by kernel_rfl)) rfl ?_
           exact ⟨_, rfl, Kd.R_nil _ _ _ _ _, HB'.out⟩
          | true =>
           rw [if_pos rfl] at h
           by_cases c6 : rd l1 i < 0
           ·rw [if_pos c6] at h
            obtain ⟨rfl, rfl, rfl⟩ : r1 = 0 ∧ r2 = [] ∧ r3 = false := by simpa [eq_comm] using h
            have c6b := decide_eq_true c6
            go_upto_region 9 with (fail)
            obtain ⟨hz0, hz1⟩ := c2 (Aside0.mk (blk_below X4.out HBW.out))
            have hzf0 := blk_frozen (blk_below X4.out HBW.out) 0
            have hzf1 := blk_frozen (blk_below X4.out HBW.out) 1
            go_wp2_with (((with_reducible refine gate_store (t := 29) (p := 4) rfl ?_); refine store_event (t := 29) (p := 4) (v := ?vo_z12) (w1 := (wc.setCell ⟨q4, 0, none⟩ (.int .i64 0)).setCell ⟨q4, 1, none⟩ (.slice none 0 0)) ?hg ?ho ?hn ?hr ?_; (case ho => rfl); (case hg => rfl); (case hn => rfl); (case hr => first | (go_simp; done) | (go_simp; rfl)); intro w9 hw; have X4' : Aside0 (w9.heap[q4]? = some (.cells #[.int .i64 0, .slice none 0 0] 29 (0, 0))) := ⟨by rw [hw]; exact put2 (blk_below X4.out HBW.out)⟩; have HB' : Aside0 (Below w.heap.size w w9) := ⟨by rw [hw]; exact below_set (below_set (HB0.out.trans (HBW.out.mono HB0.out.size)) Gq4.out) Gq4.out⟩; clear hw))
            refine bodyPost_ret (results_ct rfl _ _ q4 29 #[.int .i64 0, .slice none 0 0] (0, 0) _ rfl X4'.out Try.underlying29 rfl (by kernel_rfl)) rfl ?_
            exact ⟨_, rfl, Kd.R_nil _ _ _ _ _, HB'.out⟩
           rw [if_neg c6] at h
           have H' := Aside0.mk h
           clear h
           have c6b := decide_eq_false c6
           obtain ⟨ha0, ha1⟩ := c2 X8
           obtain ⟨hz0, hz1⟩ := c2 (Aside0.mk (blk_below X6.out HZ.out))
           have hf0 := blk_frozen (blk_below X6.out HZ.out) 0
           have hf1 := blk_frozen (blk_below X6.out HZ.out) 1
           go_wp2_with (((with_reducible refine gate_store (t := 29) (p := 6) rfl ?_); refine store_event (t := 29) (p := 6) (v := ?vo_s6b) (w1 := (wc.setCell ⟨q6, 0, none⟩ (.int .i64 t1)).setCell ⟨q6, 1, none⟩ (.slice Ay t1'.length cy)) ?hg ?ho ?hn ?hr ?_; (case ho => rfl); (case hg => rfl); (case hn => rfl); (case hr => first | (go_simp; done) | (go_simp; rfl)); intro w7 hw; have X6' : Aside0 (w7.heap[q6]? = some (.cells #[.int .i64 t1, .slice Ay t1'.length cy] 29 (0, 0))) := ⟨by rw [hw]; exact put2 (blk_below X6.out HZ.out)⟩; have RO' : Aside0 (Kd.R (Kd.int .i64) 3 w7 wo.heap.size (fun _ => True) (.slice Ay t1'.length cy) t1') := ⟨by rw [hw]; exact own2 (Kd.R_lower RY.out HB.out.size) (blk_below X6.out HZ.out) (by decide)⟩; have HB' : Aside0 (Below wo.heap.size wo w7) := ⟨by rw [hw]; exact below_set (below_set (HB.out.trans (HZ.out.mono HB.out.size)) Gq6.out) Gq6.out⟩; clear hw))
           go_roundg k1
           case measure => have := HK.out; omega
           case rel => exact ⟨wrap64 (i + 1), t1, t1', Ay, cy, (by first | rfl | (simp; done) | (simp [*]; done)), H', ⟨by have := HK.out; omega⟩, X6', RO', HB'⟩
        rw [if_neg c5] at H; cases H
       rw [if_neg c4] at H; cases H
      rw [if_neg c3] at H
      obtain ⟨rfl, rfl, rfl⟩ : r1 = o ∧ r2 = o' ∧ r3 = true := by simpa [eq_comm] using H
      have c3b : decide (i < (l1.length : Int)) = false := decide_eq_false c3
      clear c3 H
      obtain ⟨ha0, ha1⟩ := c2 X6
      obtain ⟨hz0, hz1⟩ := c2 (Aside0.mk (blk_below X4.out HB.out))
      have hzf0 := blk_frozen (blk_below X4.out HB.out) 0
      have hzf1 := blk_frozen (blk_below X4.out HB.out) 1
      go_wp2_with (((with_reducible refine gate_store (t := 29) (p := 4) rfl ?_); refine store_event (t := 29) (p := 4) (v := ?vo_end) (w1 := (wr.setCell ⟨q4, 0, none⟩ (.int .i64 r1)).setCell ⟨q4, 1, none⟩ (.slice Ao r2.length co)) ?hg ?ho ?hn ?hr ?_; (case ho => rfl); (case hg => rfl); (case hn => rfl); (case hr => first | (go_simp; done) | (go_simp; rfl)); intro w9 hw; have X4' : Aside0 (w9.heap[q4]? = some (.cells #[.int .i64 r1, .slice Ao r2.length co] 29 (0, 0))) := ⟨by rw [hw]; exact put2 (blk_below X4.out HB.out)⟩; have RR : Aside0 (Kd.R (Kd.int .i64) 3 w9 w.heap.size (fun _ => True) (.slice Ao r2.length co) r2) := ⟨by rw [hw]; exact own2 (Kd.R_lower RO.out HB0.out.size) (blk_below X4.out HB.out) (by decide)⟩; have HB' : Aside0 (Below w.heap.size w w9) := ⟨by rw [hw]; exact below_set (below_set (HB0.out.trans (HB.out.mono HB0.out.size)) Gq4.out) Gq4.out⟩; clear hw))
      refine bodyPost_ret (results_ct rfl _ _ q4 29 #[.int .i64 r1, .slice Ao r2.length co] (0, 0) _ rfl X4'.out Try.underlying29 rfl (by kernel_rfl)) rfl ?_
      exact ⟨_, rfl, RR.out, HB'.out⟩
  have hnb : ((l1.length : Int) != (l0_1.length : Int)) = true := by simpa using hne
  rw [hnb] at h
  obtain ⟨rfl, rfl, rfl⟩ : r1 = 0 ∧ r2 = [] ∧ r3 = false := by simpa using spec_CombineRows.j0_true h
  go_upto_region 2 with ((go_at_call 79; refine (spec_IsValidSystem.calls k a0_0 A0_1 c0_1 l0_1 _ _ (Kd.C_below HR0_1.out HB.out) HC0_1.out H1.out).mono ?_; rintro e wp ⟨rfl, hb⟩; replace HB := bs HB hb; obtain ⟨h20, h21⟩ := c2 (Aside0.mk (blk_below X2.out HB.out)); clear hb))
  obtain ⟨hz0, hz1⟩ := c2 (Aside0.mk (blk_below X4.out HB.out))
  have hzf0 := blk_frozen (blk_below X4.out HB.out) 0
  have hzf1 := blk_frozen (blk_below X4.out HB.out) 1
  go_wp2_with (((with_reducible refine gate_store (t := 29) (p := 4) rfl ?_); refine store_event (t := 29) (p := 4) (v := ?vo_z1) (w1 := (wp.setCell ⟨q4, 0, none⟩ (.int .i64 0)).setCell ⟨q4, 1, none⟩ (.slice none 0 0)) ?hg ?ho ?hn ?hr ?_; (case ho => rfl); (case hg => rfl); (case hn => rfl); (case hr => first | (go_simp; done) | (go_simp; rfl)); intro w9 hw; have X4' : Aside0 (w9.heap[q4]? = some (.cells #[.int .i64 0, .slice none 0 0] 29 (0, 0))) := ⟨by rw [hw]; exact put2 (blk_below X4.out HB.out)⟩; have HB' : Aside0 (Below w.heap.size w w9) := ⟨by rw [hw]; exact below_set (below_set (HB0.out.trans (HB.out.mono HB0.out.size)) Gq4.out) Gq4.out⟩; clear hw))
  refine bodyPost_ret (results_ct rfl _ _ q4 29 #[.int .i64 0, .slice none 0 0] (0, 0) _ rfl X4'.out Try.underlying29 rfl (by kernel_rfl)) rfl ?_
  exact ⟨_, rfl, Kd.R_nil _ _ _ _ _, HB'.out⟩
 have hb1' : b1 = false := by cases b1 with | true => exact absurd rfl hb1 | false => rfl
 subst hb1'
 simp only [Bool.false_eq_true, if_false] at h
 obtain ⟨rfl, rfl, rfl⟩ : r1 = 0 ∧ r2 = [] ∧ r3 = false := by simpa using spec_CombineRows.j0_true h
 go_upto_region 2 with ((go_at_call 79; refine (spec_IsValidSystem.calls k a0_0 A0_1 c0_1 l0_1 _ _ (Kd.C_below HR0_1.out HB.out) HC0_1.out H1.out).mono ?_; rintro e wp ⟨rfl, hb⟩; replace HB := bs HB hb; obtain ⟨h20, h21⟩ := c2 (Aside0.mk (blk_below X2.out HB.out)); clear hb))
 obtain ⟨hz0, hz1⟩ := c2 (Aside0.mk (blk_below X4.out HB.out))
 have hzf0 := blk_frozen (blk_below X4.out HB.out) 0
 have hzf1 := blk_frozen (blk_below X4.out HB.out) 1
 go_wp2_with (((with_reducible refine gate_store (t := 29) (p := 4) rfl ?_); refine store_event (t := 29) (p := 4) (v := ?vo_z2) (w1 := (wp.setCell ⟨q4, 0, none⟩ (.int .i64 0)).setCell ⟨q4, 1, none⟩ (.slice none 0 0)) ?hg ?ho ?hn ?hr ?_; (case ho => rfl); (case hg => rfl); (case hn => rfl); (case hr => first | (go_simp; done) | (go_simp; rfl)); intro w9 hw; have X4' : Aside0 (w9.heap[q4]? = some (.cells #[.int .i64 0, .slice none 0 0] 29 (0, 0))) := ⟨by rw [hw]; exact put2 (blk_below X4.out HB.out)⟩; have HB' : Aside0 (Below w.heap.size w w9) := ⟨by rw [hw]; exact below_set (below_set (HB0.out.trans (HB.out.mono HB0.out.size)) Gq4.out) Gq4.out⟩; clear hw))
 refine bodyPost_ret (results_ct rfl _ _ q4 29 #[.int .i64 0, .slice none 0 0] (0, 0) _ rfl X4'.out Try.underlying29 rfl (by kernel_rfl)) rfl ?_
 exact ⟨_, rfl, Kd.R_nil _ _ _ _ _, HB'.out⟩

end Go.Proofs.Ytlencemmlgkflaa.QFnEntailed
