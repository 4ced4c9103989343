-- Made by a program of this claim's own (wip/print): not the kit's print as it stands.
import Derived.Test.YtlencemmlgkflaaUFnEntailedTri
import Derived.Test.YtlencemmlgkflaaQFnEntailedx0
import Derived.Test.YtlencemmlgkflaaQFnEntailedx1
namespace Go.Proofs.Ytlencemmlgkflaa.QFnEntailed
open Go.RowKit Go.Proofs.YtlencemmlgkflaaV.PrintWords Go.Proofs.YtlencemmlgkflaaV.PrintLast Go.Proofs.YtlencemmlgkflaaV.PrintMore
attribute [local go_sem] max2_int min2_int max_two min_two max_three min_three max_four min_four   -- for this text's walks alone
set_option linter.unusedVariables false
set_option linter.unusedSimpArgs false

/-! ### impl_AddScaled: function 75 -/
mutual
def impl_AddScaled.j0 : Nat → Int → Int → Bool → Int → List Int → Int → List Int → Option (Int × List Int × Bool)
 | 0, _, _, _, _, _, _, _ => none
 | k + 1, x1, x8, x32, x132000, x132001, x133000, x133001 => if x32 = true then (some (0, ([] : List Int), false)) else ((impl_ConstLin.f 0 x8).bind fun bt137 => ((impl_scaled.f x132000 x1 x133000).bind fun bt142 => (impl_AddScaled.l0 k x1 bt142.2 (x132001.length : Int) 0 x132000 x132001 x133000 x133001 bt142.1 bt137.2)))
def impl_AddScaled.l0 : Nat → Int → Bool → Int → Int → Int → List Int → Int → List Int → Int → List Int → Option (Int × List Int × Bool)
 | 0, _, _, _, _, _, _, _, _, _, _ => none
 | k + 1, x1, x11, x49, x50, x132000, x132001, x133000, x133001, x142000, x142001 => if x50 < x49 then (if 0 ≤ x50 then (if x50 < (x132001.length : Int) then (if x50 < (x133001.length : Int) then ((impl_scaled.f (rd x132001 x50) x1 (rd x133001 x50)).bind fun bt146 => (if x50 < (x142001.length : Int) then ((some (x142001.set (x50 : Int).toNat bt146.1 : List Int)).bind fun y148 => (if x11 = true then (impl_AddScaled.l0 k x1 bt146.2 x49 (wrap64 (x50 + 1)) x132000 x132001 x133000 x133001 x142000 y148) else (impl_AddScaled.l0 k x1 false x49 (wrap64 (x50 + 1)) x132000 x132001 x133000 x133001 x142000 y148))) else (none))) else (none)) else (none)) else (none)) else (if x11 = true then (some (x142000, x142001, true)) else (some (0, ([] : List Int), false)))
end
def impl_AddScaled.f (k : Nat) (a0_0 : Int) (l0_1 : List Int) (a1 : Int) (a2_0 : Int) (l2_1 : List Int) : Option (Int × List Int × Bool) := (impl_IsValidLin.f k a0_0 l0_1 (l0_1.length : Int)).bind fun t134 => (if t134 = true then ((impl_IsValidLin.f k a2_0 l2_1 (l0_1.length : Int)).bind fun t135 => (if t135 = true then ((impl_coeffOk.f a1).bind fun t136 => (impl_AddScaled.j0 k a1 (l0_1.length : Int) (!t136) a0_0 l0_1 a2_0 l2_1)) else (impl_AddScaled.j0 k a1 (l0_1.length : Int) true a0_0 l0_1 a2_0 l2_1))) else (impl_AddScaled.j0 k a1 (l0_1.length : Int) true a0_0 l0_1 a2_0 l2_1))
theorem impl_AddScaled.mono_l : ∀ k, (∀ y0 y1 y2 y3 y4 y5 y6, LeO (impl_AddScaled.j0 k y0 y1 y2 y3 y4 y5 y6) (impl_AddScaled.j0 (k + 1) y0 y1 y2 y3 y4 y5 y6)) ∧ (∀ y0 y1 y2 y3 y4 y5 y6 y7 y8 y9, LeO (impl_AddScaled.l0 k y0 y1 y2 y3 y4 y5 y6 y7 y8 y9) (impl_AddScaled.l0 (k + 1) y0 y1 y2 y3 y4 y5 y6 y7 y8 y9))
 | 0 => ⟨fun _ _ _ _ _ _ _ r h => by simp [impl_AddScaled.j0] at h, fun _ _ _ _ _ _ _ _ _ _ r h => by simp [impl_AddScaled.l0] at h⟩
 | k + 1 => by
  obtain ⟨ih0, ih1⟩ := impl_AddScaled.mono_l k
  refine ⟨?_, ?_⟩
  ·intro y0 y1 y2 y3 y4 y5 y6
   unfold impl_AddScaled.j0
   repeat' with_reducible first
   | exact ih0 _ _ _ _ _ _ _
   | exact ih1 _ _ _ _ _ _ _ _ _ _
   | exact impl_IsValidLin.mono _ _ _ _
   | exact LeO.refl _
   | exact LeO.none _
   | refine LeO.ite ?_ ?_
   | refine LeO.bind ?_ (fun _ => ?_)
  intro y0 y1 y2 y3 y4 y5 y6 y7 y8 y9
  unfold impl_AddScaled.l0
  repeat' with_reducible first
  | exact ih0 _ _ _ _ _ _ _
  | exact ih1 _ _ _ _ _ _ _ _ _ _
  | exact impl_IsValidLin.mono _ _ _ _
  | exact LeO.refl _
  | exact LeO.none _
  | refine LeO.ite ?_ ?_
  | refine LeO.bind ?_ (fun _ => ?_)
theorem impl_AddScaled.mono : ∀ a0 a1 a2 a3 a4 k, LeO (impl_AddScaled.f k a0 a1 a2 a3 a4) (impl_AddScaled.f (k + 1) a0 a1 a2 a3 a4) := by
 intro a0 a1 a2 a3 a4 k
 obtain ⟨ih0, ih1⟩ := impl_AddScaled.mono_l k
 unfold impl_AddScaled.f
 repeat' with_reducible first
 | exact ih0 _ _ _ _ _ _ _
 | exact ih1 _ _ _ _ _ _ _ _ _ _
 | exact impl_IsValidLin.mono _ _ _ _
 | exact LeO.refl _
 | exact LeO.none _
 | refine LeO.ite ?_ ?_
 | refine LeO.bind ?_ (fun _ => ?_)
set_option maxHeartbeats 8000000 in
set_option maxRecDepth 100000 in
theorem impl_AddScaled.calls (k : Nat) (a0_0 : Int) (A0_1 : Option Addr) (c0_1 : Nat) (l0_1 : List Int) (a1 : Int) (a2_0 : Int) (A2_1 : Option Addr) (c2_1 : Nat) (l2_1 : List Int) (r1 : Int) (r2 : List Int) (r3 : Bool) (w : World) (hr0_1 : Kd.C (Kd.int .i64) w A0_1 l0_1.length l0_1) (hc0_1 : l0_1.length ≤ c0_1) (hr2_1 : Kd.C (Kd.int .i64) w A2_1 l2_1.length l2_1) (hc2_1 : l2_1.length ≤ c2_1) (h : impl_AddScaled.f k a0_0 l0_1 a1 a2_0 l2_1 = some (r1, r2, r3)) :
  Calls Try.prog 75 #[.agg #[.int .i64 a0_0, .slice A0_1 l0_1.length c0_1], .int .i64 a1, .agg #[.int .i64 a2_0, .slice A2_1 l2_1.length c2_1]] w fun e w' => ∃ v1_ : Value, e = .returned (.tuple #[.agg #[.int .i64 r1, v1_], .bool r3]) ∧ Kd.R (Kd.int .i64) 3 w' w.heap.size (fun _ => True) v1_ r2 ∧ Below w.heap.size w w' := by
 have hu29 := Try.underlying29
 have HR0_1 := Aside0.mk hr0_1
 have HC0_1 := Aside0.mk hc0_1
 clear hr0_1 hc0_1
 have HR2_1 := Aside0.mk hr2_1
 have HC2_1 := Aside0.mk hc2_1
 clear hr2_1 hc2_1
 have HB := Aside0.mk (Below.refl w.heap.size w)
 have H : ((impl_IsValidLin.f k a0_0 l0_1 (l0_1.length : Int)).bind fun t134 => (if t134 = true then ((impl_IsValidLin.f k a2_0 l2_1 (l0_1.length : Int)).bind fun t135 => (if t135 = true then ((impl_coeffOk.f a1).bind fun t136 => (impl_AddScaled.j0 k a1 (l0_1.length : Int) (!t136) a0_0 l0_1 a2_0 l2_1)) else (impl_AddScaled.j0 k a1 (l0_1.length : Int) true a0_0 l0_1 a2_0 l2_1))) else (impl_AddScaled.j0 k a1 (l0_1.length : Int) true a0_0 l0_1 a2_0 l2_1))) = some (r1, r2, r3) := h
 clear h
 have HC4 := Aside0.mk H; clear H
 go_enter Try.func75, Try.ntmps75
 go_upto_region 2 with (first | ((with_reducible refine gate_dst (N := 3) rfl ?_); refine box_event ?hg (N := 3) ?hd (cs := #[.int .i64 a0_0, .slice A0_1 l0_1.length c0_1]) (t := 29) ?hr ?_; (case hd => rfl); (case hg => rfl); (case hr => first | (go_simp; done) | (go_simp; rfl)); intro gb131 hg w5 hbox hb; have BK131 := Aside0.mk (hbox); have GW131 := gw hg HB; have GE131 := gw hg HB; replace HB := bs HB hb; clear hb hbox hg) | ((with_reducible refine gate_dst (N := 5) rfl ?_); refine box_event ?hg (N := 5) ?hd (cs := #[.int .i64 a2_0, .slice A2_1 l2_1.length c2_1]) (t := 29) ?hr ?_; (case hd => rfl); (case hg => rfl); (case hr => first | (go_simp; done) | (go_simp; rfl)); intro gb132 hg w6 hbox hb; have BK132 := Aside0.mk (hbox); have GW132 := gw hg HB; have GE132 := gw hg HB; replace HB := bs HB hb; have NB131_132 := nl hg BK131; have NB132_131 := ng hg BK131; replace BK131 := bb BK131 hb; clear hb hbox hg) | ((with_reducible refine gate_dst (N := 6) rfl ?_); refine box_event ?hg (N := 6) ?hd (cs := #[.int .i64 0, .slice none 0 0]) (t := 29) ?hr ?_; (case hd => rfl); (case hg => rfl); (case hr => first | (go_simp; done) | (go_simp; rfl)); intro gb133 hg w7 hbox hb; have BK133 := Aside0.mk (hbox); have GW133 := gw hg HB; have GE133 := gw hg HB; replace HB := bs HB hb; have NB131_133 := nl hg BK131; have NB133_131 := ng hg BK131; replace BK131 := bb BK131 hb; have NB132_133 := nl hg BK132; have NB133_132 := ng hg BK132; replace BK132 := bb BK132 hb; clear hb hbox hg; have := NB131_132.out; have := NB132_131.out; have := NB131_133.out; have := NB133_131.out; obtain ⟨hcz10_0, hcz10_1, hfz10_0, hfz10_1⟩ := cFour BK131))
 repeat (go_quiet (fail); go_upto_region 2 with (fail))
 (try simp only [Act.put, List.setIfInBounds_toArray, List.set_cons_zero, List.set_cons_succ])
 go_cut [32] (fun v32 wc => ∃ (kq : Nat) (x32_3 : Bool), v32 = .bool x32_3 ∧ Aside0 (impl_AddScaled.j0 kq a1 (l0_1.length : Int) x32_3 a0_0 l0_1 a2_0 l2_1 = some (r1, r2, r3)) ∧ Aside0 (kq ≤ k) ∧ Aside0 (wc.heap[gb131]? = some (.cells #[.int .i64 a0_0, (.slice A0_1 l0_1.length c0_1)] 29 (0, 0))) ∧ Aside0 (wc.heap[gb132]? = some (.cells #[.int .i64 a2_0, (.slice A2_1 l2_1.length c2_1)] 29 (0, 0))) ∧ Aside0 (wc.heap[gb133]? = some (.cells #[.int .i64 0, (.slice none 0 0)] 29 (0, 0))) ∧ Aside0 (Below w.heap.size w wc))
 case first =>
  have H := HC4.out
  clear HC4
  obtain ⟨t134, A110, H⟩ := Option.bind_eq_some_iff.mp H
  try dsimp only at H
  have A11 := Aside0.mk A110; clear A110
  by_cases c12 : t134 = true
  ·subst c12
   rw [if_pos rfl] at H
   obtain ⟨t135, A130, H⟩ := Option.bind_eq_some_iff.mp H
   try dsimp only at H
   have A13 := Aside0.mk A130; clear A130
   by_cases c14 : t135 = true
   ·subst c14
    rw [if_pos rfl] at H
    obtain ⟨t136, A150, H⟩ := Option.bind_eq_some_iff.mp H
    try dsimp only at H
    have A15 := Aside0.mk A150; clear A150
    have H' := Aside0.mk H
    clear H
    have := NB131_132.out
    have := NB132_131.out
    have := NB131_133.out
    have := NB133_131.out
    obtain ⟨hcz18_0, hcz18_1, hfz18_0, hfz18_1⟩ := cFour BK131
    go_wp2_with (first | (go_at_call 74; (with_reducible refine (impl_IsValidLin.calls k a0_0 _ _ l0_1 (l0_1.length : Int) true _ ?side1 ?side2 A11.out).mono ?_); (case side1 => exact mc ((Kd.C_below HR0_1.out HB.out))); (case side2 => exact HC0_1.out); rintro e w19 ⟨rfl, hb⟩; replace BK131 := bb BK131 hb; replace BK132 := bb BK132 hb; replace BK133 := bb BK133 hb; replace HB := bs HB hb; (try clear hb); have := NB132_133.out; have := NB133_132.out; obtain ⟨hcz21_0, hcz21_1, hfz21_0, hfz21_1⟩ := cFour BK132) | (go_at_call 74; (with_reducible refine (impl_IsValidLin.calls k a2_0 _ _ l2_1 (l0_1.length : Int) true _ ?side1 ?side2 A13.out).mono ?_); (case side1 => exact mc ((Kd.C_below HR2_1.out HB.out))); (case side2 => exact HC2_1.out); rintro e w22 ⟨rfl, hb⟩; replace BK131 := bb BK131 hb; replace BK132 := bb BK132 hb; replace BK133 := bb BK133 hb; replace HB := bs HB hb; (try clear hb)) | (go_at_call 122; (with_reducible refine (impl_coeffOk.calls a1 t136 _ A15.out).mono ?_); rintro e w' ⟨rfl, ⟨nd, rfl⟩⟩; (try first | exact ⟨rfl, _, World.drewN_drewN _ _ _⟩ | exact ⟨rfl, _, Eq.trans (World.drewN_drewN _ _ _) (congrArg (World.drewN _) (Nat.add_assoc _ _ _))⟩)))
    repeat (go_quiet (fail); try go_wp2_with (fail))
    go_meet
    case rel => exact ⟨_, (!t136), (by first | rfl | (simp; done) | (simp [*]; done)), H', ⟨by first | omega | exact Nat.le_refl _⟩, ⟨mb BK131⟩, ⟨mb BK132⟩, ⟨mb BK133⟩, ⟨ms HB⟩⟩
   replace c14 := Bool.eq_false_iff.mpr c14
   subst c14
   rw [if_neg (show ¬ (false = true) by decide)] at H
   have H' := Aside0.mk H
   clear H
   have := NB131_132.out
   have := NB132_131.out
   have := NB131_133.out
   have := NB133_131.out
   obtain ⟨hcz25_0, hcz25_1, hfz25_0, hfz25_1⟩ := cFour BK131
   go_wp2_with (first | (go_at_call 74; (with_reducible refine (impl_IsValidLin.calls k a0_0 _ _ l0_1 (l0_1.length : Int) true _ ?side1 ?side2 A11.out).mono ?_); (case side1 => exact mc ((Kd.C_below HR0_1.out HB.out))); (case side2 => exact HC0_1.out); rintro e w26 ⟨rfl, hb⟩; replace BK131 := bb BK131 hb; replace BK132 := bb BK132 hb; replace BK133 := bb BK133 hb; replace HB := bs HB hb; (try clear hb); have := NB132_133.out; have := NB133_132.out; obtain ⟨hcz28_0, hcz28_1, hfz28_0, hfz28_1⟩ := cFour BK132) | (go_at_call 74; (with_reducible refine (impl_IsValidLin.calls k a2_0 _ _ l2_1 (l0_1.length : Int) false _ ?side1 ?side2 A13.out).mono ?_); (case side1 => exact mc ((Kd.C_below HR2_1.out HB.out))); (case side2 => exact HC2_1.out); rintro e w29 ⟨rfl, hb⟩; replace BK131 := bb BK131 hb; replace BK132 := bb BK132 hb; replace BK133 := bb BK133 hb; replace HB := bs HB hb; (try clear hb)))
   repeat (go_quiet (fail); try go_wp2_with (fail))
   go_meet
   case rel => exact ⟨_, (true), (by first | rfl | (simp; done) | (simp [*]; done)), H', ⟨by first | omega | exact Nat.le_refl _⟩, ⟨mb BK131⟩, ⟨mb BK132⟩, ⟨mb BK133⟩, ⟨ms HB⟩⟩
  replace c12 := Bool.eq_false_iff.mpr c12
  subst c12
  rw [if_neg (show ¬ (false = true) by decide)] at H
  have H' := Aside0.mk H
  clear H
  have := NB131_132.out
  have := NB132_131.out
  have := NB131_133.out
  have := NB133_131.out
  obtain ⟨hcz32_0, hcz32_1, hfz32_0, hfz32_1⟩ := cFour BK131
  go_wp2_with ((go_at_call 74; (with_reducible refine (impl_IsValidLin.calls k a0_0 _ _ l0_1 (l0_1.length : Int) false _ ?side1 ?side2 A11.out).mono ?_); (case side1 => exact mc ((Kd.C_below HR0_1.out HB.out))); (case side2 => exact HC0_1.out); rintro e w33 ⟨rfl, hb⟩; replace BK131 := bb BK131 hb; replace BK132 := bb BK132 hb; replace BK133 := bb BK133 hb; replace HB := bs HB hb; (try clear hb)))
  repeat (go_quiet (fail); try go_wp2_with (fail))
  go_meet
  case rel => exact ⟨_, (true), (by first | rfl | (simp; done) | (simp [*]; done)), H', ⟨by first | omega | exact Nat.le_refl _⟩, ⟨mb BK131⟩, ⟨mb BK132⟩, ⟨mb BK133⟩, ⟨ms HB⟩⟩
 case rest =>
  clear HC4
  try clear c1
  try clear c2
  try clear p2
  try clear c3
  try clear c7
  try clear c8
  try clear c9
  try clear c12
  try clear c14
  try clear c16
  try clear c17
  try clear c20
  try clear c23
  try clear c24
  try clear c27
  try clear c30
  try clear c31
  try clear hcz10_0
  try clear hcz10_1
  try clear hcz18_0
  try clear hcz18_1
  try clear hcz21_0
  try clear hcz21_1
  try clear hcz25_0
  try clear hcz25_1
  try clear hcz28_0
  try clear hcz28_1
  try clear hcz32_0
  try clear hcz32_1
  try clear hfz10_0
  try clear hfz10_1
  try clear hfz18_0
  try clear hfz18_1
  try clear hfz21_0
  try clear hfz21_1
  try clear hfz25_0
  try clear hfz25_1
  try clear hfz28_0
  try clear hfz28_1
  try clear hfz32_0
  try clear hfz32_1
  obtain ⟨kq, x32_3, rfl, HA, HJ3, BK131, BK132, BK133, HB⟩ := hcut
  cases kq with
  | zero => exact absurd HA.out (by simp [impl_AddScaled.j0])
  | succ kj3 =>
   have H := HA.out
   clear HA
   simp only [impl_AddScaled.j0] at H
   by_cases c34 : x32_3 = true
   ·subst c34
    rw [if_pos rfl] at H
    simp only [Option.some.injEq, Prod.mk.injEq] at H
    obtain ⟨rfl, rfl, rfl⟩ := H
    have := NB133_131.out
    have := NB131_133.out
    have := NB133_132.out
    have := NB132_133.out
    obtain ⟨hcz37_0, hcz37_1, hfz37_0, hfz37_1⟩ := cFour BK133
    go_wp2
    repeat (go_quiet (fail); try go_wp2)
    refine bodyPost_ret (results_ct rfl _ _ gb133 29 #[.int .i64 0, .slice none 0 0] (0, 0) _ rfl (mq BK133) Try.underlying29 rfl (by kernel_rfl)) rfl ?_
    exact ⟨_, by first | rfl | (simp [errW_none, errW_some] <;> rfl) | (simp [*, errW_none, errW_some] <;> rfl), by first | exact Kd.R_nil _ _ _ _ _ | exact Kd.N_nil _ _ _ _ _ | exact Kd.V_nil _ _ _ _ _ | exact Kd.Q_nil _ _ _ _ _ | exact Kd.S_nil _ _ _ _ _, ms HB⟩
   replace c34 := Bool.eq_false_iff.mpr c34
   subst c34
   rw [if_neg (show ¬ (false = true) by decide)] at H
   obtain ⟨⟨t137, t138⟩, A380, H⟩ := Option.bind_eq_some_iff.mp H
   try dsimp only at H
   have A38 := Aside0.mk A380; clear A380
   obtain ⟨⟨t142, t143⟩, A390, H⟩ := Option.bind_eq_some_iff.mp H
   try dsimp only at H
   have A39 := Aside0.mk A390; clear A390
   have H' := Aside0.mk H
   clear H
   go_wp2_with (first | (go_at_call 76; (with_reducible refine (impl_ConstLin.calls 0 (l0_1.length : Int) t137 t138 _ A38.out).mono ?_); rintro e w40 ⟨v139, rfl, ho0, hb⟩; have HO140 := Aside0.mk (Kd.R_lower ho0 (below_size (ms HB))); replace BK131 := bb BK131 hb; replace BK132 := bb BK132 hb; replace BK133 := bb BK133 hb; replace HB := bs HB hb; (try clear hb); (try clear ho0)) | ((with_reducible refine gate_dst (N := 9) rfl ?_); refine box_event ?hg (N := 9) ?hd (cs := #[.int .i64 0, .slice none 0 0]) (t := 29) ?hr ?_; (case hd => rfl); (case hg => rfl); (case hr => first | (go_simp; done) | (go_simp; rfl)); intro gb141 hg w41 hbox hb; replace HO140 := rb HO140 hb; have BK141 := Aside0.mk (hbox); have GW141 := gw hg HB; have GE141 := gw hg HB; replace HB := bs HB hb; have NB131_141 := nl hg BK131; have NB141_131 := ng hg BK131; replace BK131 := bb BK131 hb; have NB132_141 := nl hg BK132; have NB141_132 := ng hg BK132; replace BK132 := bb BK132 hb; have NB133_141 := nl hg BK133; have NB141_133 := ng hg BK133; replace BK133 := bb BK133 hb; clear hb hbox hg; have := NB141_131.out; have := NB131_141.out; have := NB141_132.out; have := NB132_141.out; have := NB141_133.out; have := NB133_141.out; obtain ⟨hcz45_0, hcz45_1, hfz45_0, hfz45_1⟩ := cFour BK141; obtain ⟨Ao46, co46, eo46⟩ := Kd.R_slice HO140.out; subst eo46; have := NB131_132.out; have := NB132_131.out; have := NB131_133.out; have := NB133_131.out; obtain ⟨hcz49_0, hcz49_1, hfz49_0, hfz49_1⟩ := cFour BK131; have := NB132_133.out; have := NB133_132.out; obtain ⟨hcz51_0, hcz51_1, hfz51_0, hfz51_1⟩ := cFour BK132) | (go_at_call 124; (with_reducible refine (impl_scaled.calls a0_0 a1 a2_0 t142 t143 _ A39.out).mono ?_); rintro e w' ⟨rfl, ⟨nd, rfl⟩⟩; (try first | exact ⟨rfl, _, World.drewN_drewN _ _ _⟩ | exact ⟨rfl, _, Eq.trans (World.drewN_drewN _ _ _) (congrArg (World.drewN _) (Nat.add_assoc _ _ _))⟩)))
   repeat (go_quiet (fail); try go_wp2_with (fail))
   go_loopg [11, 50] kj3 (fun kq v11 v50 w' => ∃ (x11_2 : Bool) (x50_2 : Int) (x142001_2 : List Int) (u142001 : Value), v11 = .bool x11_2 ∧ v50 = .int .i64 x50_2 ∧ Aside0 (impl_AddScaled.l0 kq a1 x11_2 (l0_1.length : Int) x50_2 a0_0 l0_1 a2_0 l2_1 t142 x142001_2 = some (r1, r2, r3)) ∧ Aside0 (kq ≤ kj3) ∧ Aside0 (Kd.R (Kd.int .i64) 3 w' w.heap.size (fun _ => True) u142001 x142001_2) ∧ Aside0 (w'.heap[gb131]? = some (.cells #[.int .i64 a0_0, (.slice A0_1 l0_1.length c0_1)] 29 (0, 0))) ∧ Aside0 (w'.heap[gb132]? = some (.cells #[.int .i64 a2_0, (.slice A2_1 l2_1.length c2_1)] 29 (0, 0))) ∧ Aside0 (w'.heap[gb133]? = some (.cells #[.int .i64 0, (.slice none 0 0)] 29 (0, 0))) ∧ Aside0 (w'.heap[gb141]? = some (.cells #[.int .i64 t142, u142001] 29 (0, 0))) ∧ Aside0 (Below w.heap.size w w'))
   case atStart => exact ⟨(t143), (0), (t138), (.slice Ao46 t138.length co46), (by first | rfl | (simp; done) | (simp [*]; done)), (by first | rfl | (simp; done) | (simp [*]; done)), H', ⟨Nat.le_refl _⟩, ⟨by (with_reducible repeat (first | apply Kd.R_alloc | apply Kd.R_drewN | apply Kd.R_drew)); exact Kd.R_mono (Kd.R_far (p := ⟨gb141, 0, none⟩) (Kd.R_far (p := ⟨gb141, 1, none⟩) (Kd.R_far (p := ⟨gb141, 0, none⟩) (Kd.R_types HO140.out BK141.out (by decide)) (fun _ hk => hk.2) (.int .i64 t137)) (fun _ hk => hk.2) (.slice Ao46 t138.length co46)) (fun _ hk => hk.2) (.int .i64 t142)) (fun _ hk => trivial)⟩, ⟨mf BK131⟩, ⟨mf BK132⟩, ⟨mf BK133⟩, ⟨by (with_reducible repeat (first | refine blk_drewN ?_ _ | refine blk_drew ?_ | refine blk_alloc ?_ _)); refine blk_put (cs := #[.int .i64 t137, .slice Ao46 t138.length co46]) ?_ 0 _ rfl; (with_reducible repeat (first | refine blk_drewN ?_ _ | refine blk_drew ?_ | refine blk_alloc ?_ _)); refine blk_put (cs := #[.int .i64 t137, .slice none 0 0]) ?_ 1 _ rfl; (with_reducible repeat (first | refine blk_drewN ?_ _ | refine blk_drew ?_ | refine blk_alloc ?_ _)); refine blk_put (cs := #[.int .i64 0, .slice none 0 0]) ?_ 0 _ rfl; (with_reducible repeat (first | refine blk_drewN ?_ _ | refine blk_drew ?_ | refine blk_alloc ?_ _)); exact BK141.out⟩, ⟨ms HB⟩⟩
   case round =>
    clear H'
    try clear c1
    try clear c2
    try clear p2
    try clear c3
    try clear c4
    try clear c5
    try clear c7
    try clear c8
    try clear c9
    try clear c12
    try clear c14
    try clear c16
    try clear c17
    try clear c20
    try clear c23
    try clear c24
    try clear c27
    try clear c30
    try clear c31
    try clear c34
    try clear c35
    try clear c36
    try clear c42
    try clear c43
    try clear c44
    try clear c47
    try clear c48
    try clear c50
    try clear hcz10_0
    try clear hcz10_1
    try clear hcz18_0
    try clear hcz18_1
    try clear hcz21_0
    try clear hcz21_1
    try clear hcz25_0
    try clear hcz25_1
    try clear hcz28_0
    try clear hcz28_1
    try clear hcz32_0
    try clear hcz32_1
    try clear hcz37_0
    try clear hcz37_1
    try clear hcz45_0
    try clear hcz45_1
    try clear hcz49_0
    try clear hcz49_1
    try clear hcz51_0
    try clear hcz51_1
    try clear hfz10_0
    try clear hfz10_1
    try clear hfz18_0
    try clear hfz18_1
    try clear hfz21_0
    try clear hfz21_1
    try clear hfz25_0
    try clear hfz25_1
    try clear hfz28_0
    try clear hfz28_1
    try clear hfz32_0
    try clear hfz32_1
    try clear hfz37_0
    try clear hfz37_1
    try clear hfz45_0
    try clear hfz45_1
    try clear hfz49_0
    try clear hfz49_1
    try clear hfz51_0
    try clear hfz51_1
    try clear p2
    obtain ⟨x11_2, x50_2, x142001_2, u142001, rfl, rfl, HA, HK2, HO_142001, BK131, BK132, BK133, BK141, HB⟩ := hrel
    cases gk with
    | zero => exact absurd HA.out (by simp [impl_AddScaled.l0])
    | succ k2 =>
     have H := HA.out
     clear HA
     simp only [impl_AddScaled.l0] at H
     by_cases c52 : x50_2 < (l0_1.length : Int)
     ·rw [if_pos c52] at H
      have c52b0 : decide (x50_2 < (l0_1.length : Int)) = true := decide_eq_true c52
      clear c52
      by_cases c53 : 0 ≤ x50_2
      ·rw [if_pos c53] at H
       have c53b0 : decide (0 ≤ x50_2) = true := decide_eq_true c53
       clear c53
       by_cases c54 : x50_2 < (l0_1.length : Int)
       ·rw [if_pos c54] at H
        have c54b0 : decide (x50_2 < (l0_1.length : Int)) = true := decide_eq_true c54
        clear c54
        by_cases c55 : x50_2 < (l2_1.length : Int)
        ·rw [if_pos c55] at H
         have c55b0 : decide (x50_2 < (l2_1.length : Int)) = true := decide_eq_true c55
         clear c55
         obtain ⟨⟨t146, t147⟩, A560, H⟩ := Option.bind_eq_some_iff.mp H
         try dsimp only at H
         have A56 := Aside0.mk A560; clear A560
         by_cases c57 : x50_2 < (x142001_2.length : Int)
         ·rw [if_pos c57] at H
          have c57b0 : decide (x50_2 < (x142001_2.length : Int)) = true := decide_eq_true c57
          clear c57
          obtain ⟨y148, hy148⟩ : ∃ y_ : List Int, y_ = (x142001_2.set (x50_2 : Int).toNat t146) := ⟨_, rfl⟩
          replace H : (if x11_2 = true then (impl_AddScaled.l0 k2 a1 t147 (l0_1.length : Int) (wrap64 (x50_2 + 1)) a0_0 l0_1 a2_0 l2_1 t142 y148) else (impl_AddScaled.l0 k2 a1 false (l0_1.length : Int) (wrap64 (x50_2 + 1)) a0_0 l0_1 a2_0 l2_1 t142 y148)) = some (r1, r2, r3) := by first | (rw [hy148]; with_reducible exact H) | (have H2_ := (Option.bind_some _ _).symm.trans H; rw [hy148]; with_reducible exact H2_) | (have H2_ := (Option.bind_some _ _).symm.trans H; with_reducible exact H2_) | with_reducible exact H | (rw [hy148]; exact H) | exact H
          have Ny148 := Aside0.mk hy148; clear hy148
          by_cases c59 : x11_2 = true
          ·subst c59
           rw [if_pos rfl] at H
           have H' := Aside0.mk H
           clear H
           have := NB131_132.out
           have := NB132_131.out
           have := NB131_133.out
           have := NB133_131.out
           have := NB131_141.out
           have := NB141_131.out
           obtain ⟨_, _, _, _⟩ := cFour BK131
           have p144 : 0 ≤ (x50_2 : Int) := of_decide_eq_true (by first | (with_reducible assumption) | assumption)
           have q144 : x50_2 < (l0_1.length : Int) := of_decide_eq_true (by first | (with_reducible assumption) | assumption)
           obtain ⟨ad144, e144, hx144_0⟩ := Kd.at_int HR0_1.out x50_2 p144 q144
           cases e144
           replace hx144_0 := (HB.out.cell (World.block_lt_of_cell? w _ hx144_0)).trans hx144_0
           replace p144 := eq_true p144
           replace q144 := eq_true q144
           have := NB132_133.out
           have := NB133_132.out
           have := NB132_141.out
           have := NB141_132.out
           obtain ⟨_, _, _, _⟩ := cFour BK132
           have p145 : 0 ≤ (x50_2 : Int) := of_decide_eq_true (by first | (with_reducible assumption) | assumption)
           have q145 : x50_2 < (l2_1.length : Int) := of_decide_eq_true (by first | (with_reducible assumption) | assumption)
           obtain ⟨ad145, e145, hx145_0⟩ := Kd.at_int HR2_1.out x50_2 p145 q145
           cases e145
           replace hx145_0 := (HB.out.cell (World.block_lt_of_cell? w _ hx145_0)).trans hx145_0
           replace p145 := eq_true p145
           replace q145 := eq_true q145
           go_wp2_with (fail)
           repeat (go_quiet ((go_at_call 124; (with_reducible refine (impl_scaled.calls (rd l0_1 x50_2) a1 (rd l2_1 x50_2) t146 t147 _ A56.out).mono ?_); rintro e w' ⟨rfl, ⟨nd, rfl⟩⟩; (try first | exact ⟨rfl, _, World.drewN_drewN _ _ _⟩ | exact ⟨rfl, _, Eq.trans (World.drewN_drewN _ _ _) (congrArg (World.drewN _) (Nat.add_assoc _ _ _))⟩); have := NB141_133.out; have := NB133_141.out; obtain ⟨_, _, _, _⟩ := cFour BK141; have p58 : 0 ≤ (x50_2 : Int) := of_decide_eq_true (by first | (with_reducible assumption) | assumption); have q58 : (x50_2 : Int) < ((x142001_2.length : Int) : Int) := of_decide_eq_true (by first | (with_reducible assumption) | assumption); obtain ⟨go58, co58, eo58, gb58, gl58, cl58, HG58⟩ := Kd.R_form HO_142001.out (by omega); (first | cases eo58 | (injection eo58 with ea_ en_ ec_; (first | subst ea_ | (injection ea_ with ea_; subst ea_)); subst ec_; clear en_)); have GB58 := Aside0.mk gb58; have GG58 := Aside0.mk HG58; clear gb58 gl58 HG58; obtain ⟨hx58_0, hf58_0⟩ := Kd.R_celln 0 HO_142001.out (x50_2 : Int) p58 q58; replace p58 := eq_true p58; replace q58 := eq_true q58; obtain ⟨hy69_, hz69_⟩ := Kd.R_celln 0 HO_142001.out (x50_2 : Int) (of_decide_eq_true (by first | (with_reducible assumption) | assumption)) (of_decide_eq_true (by first | (with_reducible assumption) | assumption)); have HP69 := Kd.R_putg HO_142001.out (x50_2 : Int) t146)); try go_wp2_with (((with_reducible refine gate_store (t := 3) (p := 72) rfl ?_); (try (rw [drewN_self wr]; generalize hq_ : World.drewN wr _ = wr; have n0_ := Aside0.mk (Kd.R_at hq_ HO_142001.out); have n1_ := Aside0.mk (blk_at hq_ BK131.out); have n2_ := Aside0.mk (blk_at hq_ BK132.out); have n3_ := Aside0.mk (blk_at hq_ BK133.out); have n4_ := Aside0.mk (blk_at hq_ BK141.out); have n5_ := Aside0.mk (below_at hq_ HB.out); clear hq_ HO_142001 BK131 BK132 BK133 BK141 HB; have HO_142001 := n0_; have BK131 := n1_; have BK132 := n2_; have BK133 := n3_; have BK141 := n4_; have HB := n5_; clear n0_ n1_ n2_ n3_ n4_ n5_; (try (obtain ⟨hy69_, hz69_⟩ := Kd.R_celln 0 HO_142001.out (x50_2 : Int) (of_decide_eq_true (by first | (with_reducible assumption) | assumption)) (of_decide_eq_true (by first | (with_reducible assumption) | assumption)))); (try (have HP69 := Kd.R_putg HO_142001.out (x50_2 : Int) t146)))); refine store_event (t := 3) (p := 72) (v := ?vo_w70) (w1 := (wr.setCell ⟨go58, (x50_2 : Int).toNat, none⟩ (.int .i64 t146))) ?hg ?ho ?hn ?hr ?_; (case ho => rfl); (case hg => rfl); (case hn => rfl); (case hr => first | (go_simp; done) | (go_simp; rfl)); intro w70 hw; have hg : wr.grownBy w70 (some go58) := (by rw [hw]; exact HP69.2); have hp_ : Kd.R (Kd.int .i64) 3 w70 w.heap.size (fun _ => True) (.slice (some ⟨go58, 0, none⟩) x142001_2.length co58) y148 := (by rw [hw, Ny148.out]; exact HP69.1); clear HP69; have n0_ := Aside0.mk (hp_); have n1_ := Aside0.mk (blk_grown (g := gb131) (o := .cells #[.int .i64 a0_0, .slice (some ad144) l0_1.length c0_1] 29 (0, 0)) (mb BK131) hg (Kd.R_ne HO_142001.out BK131.out (by decide))); have n2_ := Aside0.mk (blk_grown (g := gb132) (o := .cells #[.int .i64 a2_0, .slice (some ad145) l2_1.length c2_1] 29 (0, 0)) (mb BK132) hg (Kd.R_ne HO_142001.out BK132.out (by decide))); have n3_ := Aside0.mk (blk_grown (g := gb133) (o := .cells #[.int .i64 0, .slice none 0 0] 29 (0, 0)) (mb BK133) hg (Kd.R_ne HO_142001.out BK133.out (by decide))); have n4_ := Aside0.mk (blk_grown (g := gb141) (o := .cells #[.int .i64 t142, .slice (some ⟨go58, 0, none⟩) x142001_2.length co58] 29 (0, 0)) (mb BK141) hg (Kd.R_ne HO_142001.out BK141.out (by decide))); have n5_ := Aside0.mk ((by rw [hw]; exact below_set (HB.out) GB58.out : Below w.heap.size w w70)); clear HO_142001 BK131 BK132 BK133 BK141 HB; have HO_142001 := n0_; have BK131 := n1_; have BK132 := n2_; have BK133 := n3_; have BK141 := n4_; have HB := n5_; clear n0_ n1_ n2_ n3_ n4_ n5_; clear hg hw hp_)))
           go_roundg k2
           case measure => have := HJ3.out; have := HK2.out; omega
           case rel => exact ⟨(t147), (wrap64 (x50_2 + 1)), (y148), (.slice (some ⟨go58, 0, none⟩) x142001_2.length co58), (by first | rfl | (simp; done) | (simp [*]; done)), (by first | rfl | (simp; done) | (simp [*]; done)), H', ⟨by have := HJ3.out; have := HK2.out; omega⟩, ⟨by (with_reducible repeat (first | apply Kd.R_alloc | apply Kd.R_drewN | apply Kd.R_drew)); exact HO_142001.out⟩, ⟨mb BK131⟩, ⟨mb BK132⟩, ⟨mb BK133⟩, ⟨mb BK141⟩, ⟨ms HB⟩⟩
          replace c59 := Bool.eq_false_iff.mpr c59
          subst c59
          rw [if_neg (show ¬ (false = true) by decide)] at H
          have H' := Aside0.mk H
          clear H
          have := NB131_132.out
          have := NB132_131.out
          have := NB131_133.out
          have := NB133_131.out
          have := NB131_141.out
          have := NB141_131.out
          obtain ⟨_, _, _, _⟩ := cFour BK131
          have p144 : 0 ≤ (x50_2 : Int) := of_decide_eq_true (by first | (with_reducible assumption) | assumption)
          have q144 : x50_2 < (l0_1.length : Int) := of_decide_eq_true (by first | (with_reducible assumption) | assumption)
          obtain ⟨ad144, e144, hx144_0⟩ := Kd.at_int HR0_1.out x50_2 p144 q144
          cases e144
          replace hx144_0 := (HB.out.cell (World.block_lt_of_cell? w _ hx144_0)).trans hx144_0
          replace p144 := eq_true p144
          replace q144 := eq_true q144
          have := NB132_133.out
          have := NB133_132.out
          have := NB132_141.out
          have := NB141_132.out
          obtain ⟨_, _, _, _⟩ := cFour BK132
          have p145 : 0 ≤ (x50_2 : Int) := of_decide_eq_true (by first | (with_reducible assumption) | assumption)
          have q145 : x50_2 < (l2_1.length : Int) := of_decide_eq_true (by first | (with_reducible assumption) | assumption)
          obtain ⟨ad145, e145, hx145_0⟩ := Kd.at_int HR2_1.out x50_2 p145 q145
          cases e145
          replace hx145_0 := (HB.out.cell (World.block_lt_of_cell? w _ hx145_0)).trans hx145_0
          replace p145 := eq_true p145
          replace q145 := eq_true q145
          go_wp2_with (fail)
          repeat (go_quiet ((go_at_call 124; (with_reducible refine (impl_scaled.calls (rd l0_1 x50_2) a1 (rd l2_1 x50_2) t146 t147 _ A56.out).mono ?_); rintro e w' ⟨rfl, ⟨nd, rfl⟩⟩; (try first | exact ⟨rfl, _, World.drewN_drewN _ _ _⟩ | exact ⟨rfl, _, Eq.trans (World.drewN_drewN _ _ _) (congrArg (World.drewN _) (Nat.add_assoc _ _ _))⟩); have := NB141_133.out; have := NB133_141.out; obtain ⟨_, _, _, _⟩ := cFour BK141; have p58 : 0 ≤ (x50_2 : Int) := of_decide_eq_true (by first | (with_reducible assumption) | assumption); have q58 : (x50_2 : Int) < ((x142001_2.length : Int) : Int) := of_decide_eq_true (by first | (with_reducible assumption) | assumption); obtain ⟨go58, co58, eo58, gb58, gl58, cl58, HG58⟩ := Kd.R_form HO_142001.out (by omega); (first | cases eo58 | (injection eo58 with ea_ en_ ec_; (first | subst ea_ | (injection ea_ with ea_; subst ea_)); subst ec_; clear en_)); have GB58 := Aside0.mk gb58; have GG58 := Aside0.mk HG58; clear gb58 gl58 HG58; obtain ⟨hx58_0, hf58_0⟩ := Kd.R_celln 0 HO_142001.out (x50_2 : Int) p58 q58; replace p58 := eq_true p58; replace q58 := eq_true q58; obtain ⟨hy80_, hz80_⟩ := Kd.R_celln 0 HO_142001.out (x50_2 : Int) (of_decide_eq_true (by first | (with_reducible assumption) | assumption)) (of_decide_eq_true (by first | (with_reducible assumption) | assumption)); have HP80 := Kd.R_putg HO_142001.out (x50_2 : Int) t146)); try go_wp2_with (((with_reducible refine gate_store (t := 3) (p := 72) rfl ?_); (try (rw [drewN_self wr]; generalize hq_ : World.drewN wr _ = wr; have n0_ := Aside0.mk (Kd.R_at hq_ HO_142001.out); have n1_ := Aside0.mk (blk_at hq_ BK131.out); have n2_ := Aside0.mk (blk_at hq_ BK132.out); have n3_ := Aside0.mk (blk_at hq_ BK133.out); have n4_ := Aside0.mk (blk_at hq_ BK141.out); have n5_ := Aside0.mk (below_at hq_ HB.out); clear hq_ HO_142001 BK131 BK132 BK133 BK141 HB; have HO_142001 := n0_; have BK131 := n1_; have BK132 := n2_; have BK133 := n3_; have BK141 := n4_; have HB := n5_; clear n0_ n1_ n2_ n3_ n4_ n5_; (try (obtain ⟨hy80_, hz80_⟩ := Kd.R_celln 0 HO_142001.out (x50_2 : Int) (of_decide_eq_true (by first | (with_reducible assumption) | assumption)) (of_decide_eq_true (by first | (with_reducible assumption) | assumption)))); (try (have HP80 := Kd.R_putg HO_142001.out (x50_2 : Int) t146)))); refine store_event (t := 3) (p := 72) (v := ?vo_w81) (w1 := (wr.setCell ⟨go58, (x50_2 : Int).toNat, none⟩ (.int .i64 t146))) ?hg ?ho ?hn ?hr ?_; (case ho => rfl); (case hg => rfl); (case hn => rfl); (case hr => first | (go_simp; done) | (go_simp; rfl)); intro w81 hw; have hg : wr.grownBy w81 (some go58) := (by rw [hw]; exact HP80.2); have hp_ : Kd.R (Kd.int .i64) 3 w81 w.heap.size (fun _ => True) (.slice (some ⟨go58, 0, none⟩) x142001_2.length co58) y148 := (by rw [hw, Ny148.out]; exact HP80.1); clear HP80; have n0_ := Aside0.mk (hp_); have n1_ := Aside0.mk (blk_grown (g := gb131) (o := .cells #[.int .i64 a0_0, .slice (some ad144) l0_1.length c0_1] 29 (0, 0)) (mb BK131) hg (Kd.R_ne HO_142001.out BK131.out (by decide))); have n2_ := Aside0.mk (blk_grown (g := gb132) (o := .cells #[.int .i64 a2_0, .slice (some ad145) l2_1.length c2_1] 29 (0, 0)) (mb BK132) hg (Kd.R_ne HO_142001.out BK132.out (by decide))); have n3_ := Aside0.mk (blk_grown (g := gb133) (o := .cells #[.int .i64 0, .slice none 0 0] 29 (0, 0)) (mb BK133) hg (Kd.R_ne HO_142001.out BK133.out (by decide))); have n4_ := Aside0.mk (blk_grown (g := gb141) (o := .cells #[.int .i64 t142, .slice (some ⟨go58, 0, none⟩) x142001_2.length co58] 29 (0, 0)) (mb BK141) hg (Kd.R_ne HO_142001.out BK141.out (by decide))); have n5_ := Aside0.mk ((by rw [hw]; exact below_set (HB.out) GB58.out : Below w.heap.size w w81)); clear HO_142001 BK131 BK132 BK133 BK141 HB; have HO_142001 := n0_; have BK131 := n1_; have BK132 := n2_; have BK133 := n3_; have BK141 := n4_; have HB := n5_; clear n0_ n1_ n2_ n3_ n4_ n5_; clear hg hw hp_)))
          go_roundg k2
          case measure => have := HJ3.out; have := HK2.out; omega
          case rel => exact ⟨(false), (wrap64 (x50_2 + 1)), (y148), (.slice (some ⟨go58, 0, none⟩) x142001_2.length co58), (by first | rfl | (simp; done) | (simp [*]; done)), (by first | rfl | (simp; done) | (simp [*]; done)), H', ⟨by have := HJ3.out; have := HK2.out; omega⟩, ⟨by (with_reducible repeat (first | apply Kd.R_alloc | apply Kd.R_drewN | apply Kd.R_drew)); exact HO_142001.out⟩, ⟨mb BK131⟩, ⟨mb BK132⟩, ⟨mb BK133⟩, ⟨mb BK141⟩, ⟨ms HB⟩⟩
         rw [if_neg c57] at H
         exact absurd H (by simp)
        rw [if_neg c55] at H
        exact absurd H (by simp)
       rw [if_neg c54] at H
       exact absurd H (by simp)
      rw [if_neg c53] at H
      exact absurd H (by simp)
     rw [if_neg c52] at H
     have c52b0 : decide (x50_2 < (l0_1.length : Int)) = false := decide_eq_false c52
     clear c52
     by_cases c82 : x11_2 = true
     ·subst c82
      rw [if_pos rfl] at H
      simp only [Option.some.injEq, Prod.mk.injEq] at H
      obtain ⟨rfl, rfl, rfl⟩ := H
      have := NB141_131.out
      have := NB131_141.out
      have := NB141_132.out
      have := NB132_141.out
      have := NB141_133.out
      have := NB133_141.out
      obtain ⟨_, _, _, _⟩ := cFour BK141
      have := NB133_131.out
      have := NB131_133.out
      have := NB133_132.out
      have := NB132_133.out
      obtain ⟨_, _, _, _⟩ := cFour BK133
      obtain ⟨Ao90, co90, eo90⟩ := Kd.R_slice HO_142001.out
      subst eo90
      go_wp2
      repeat (go_quiet (fail); try go_wp2)
      refine bodyPost_ret (results_ct rfl _ _ gb133 29 #[.int .i64 t142, .slice Ao90 x142001_2.length co90] (0, 0) _ rfl (mq BK133) Try.underlying29 rfl (by kernel_rfl)) rfl ?_
      exact ⟨_, by first | rfl | (simp [errW_none, errW_some] <;> rfl) | (simp [*, errW_none, errW_some] <;> rfl), by (with_reducible repeat (first | apply Kd.R_alloc | apply Kd.R_drewN | apply Kd.R_drew)); exact Kd.R_mono (Kd.R_far (p := ⟨gb133, 1, none⟩) (Kd.R_far (p := ⟨gb133, 0, none⟩) (Kd.R_types HO_142001.out BK133.out (by decide)) (fun _ hk => hk.2) (.int .i64 t142)) (fun _ hk => hk.2) (.slice Ao90 x142001_2.length co90)) (fun _ hk => trivial), ms HB⟩
     replace c82 := Bool.eq_false_iff.mpr c82
     subst c82
     rw [if_neg (show ¬ (false = true) by decide)] at H
     simp only [Option.some.injEq, Prod.mk.injEq] at H
     obtain ⟨rfl, rfl, rfl⟩ := H
     have := NB133_131.out
     have := NB131_133.out
     have := NB133_132.out
     have := NB132_133.out
     have := NB133_141.out
     have := NB141_133.out
     obtain ⟨_, _, _, _⟩ := cFour BK133
     go_wp2
     repeat (go_quiet (fail); try go_wp2)
     refine bodyPost_ret (results_ct rfl _ _ gb133 29 #[.int .i64 0, .slice none 0 0] (0, 0) _ rfl (mq BK133) Try.underlying29 rfl (by kernel_rfl)) rfl ?_
     exact ⟨_, by first | rfl | (simp [errW_none, errW_some] <;> rfl) | (simp [*, errW_none, errW_some] <;> rfl), by first | exact Kd.R_nil _ _ _ _ _ | exact Kd.N_nil _ _ _ _ _ | exact Kd.V_nil _ _ _ _ _ | exact Kd.Q_nil _ _ _ _ _ | exact Kd.S_nil _ _ _ _ _, ms HB⟩

/-! ### impl_Gcd: function 125 -/
mutual
def impl_Gcd.j0 : Nat → Int → Int → Bool → Option (Int)
 | 0, _, _, _ => none
 | k + 1, x0, x1, x12 => if x12 = true then (some 0) else (impl_Gcd.l0 k x0 x1)
def impl_Gcd.l0 : Nat → Int → Int → Option (Int)
 | 0, _, _ => none
 | k + 1, x0, x1 => if x1 = 0 then (some (mx x0 (wrap64 (-x0)))) else (impl_Gcd.l0 k x1 (Int.tmod x0 x1))
end
def impl_Gcd.f (k : Nat) (a0 : Int) (a1 : Int) : Option (Int) := (impl_coeffOk.f a0).bind fun t149 => (if t149 = true then ((impl_coeffOk.f a1).bind fun t150 => (impl_Gcd.j0 k a0 a1 (!t150))) else (impl_Gcd.j0 k a0 a1 true))
theorem impl_Gcd.mono_l : ∀ k, (∀ y0 y1 y2, LeO (impl_Gcd.j0 k y0 y1 y2) (impl_Gcd.j0 (k + 1) y0 y1 y2)) ∧ (∀ y0 y1, LeO (impl_Gcd.l0 k y0 y1) (impl_Gcd.l0 (k + 1) y0 y1))
 | 0 => ⟨fun _ _ _ r h => by simp [impl_Gcd.j0] at h, fun _ _ r h => by simp [impl_Gcd.l0] at h⟩
 | k + 1 => by
  obtain ⟨ih0, ih1⟩ := impl_Gcd.mono_l k
  refine ⟨?_, ?_⟩
  ·intro y0 y1 y2
   unfold impl_Gcd.j0
   repeat' with_reducible first
   | exact ih0 _ _ _
   | exact ih1 _ _
   | exact LeO.refl _
   | exact LeO.none _
   | refine LeO.ite ?_ ?_
   | refine LeO.bind ?_ (fun _ => ?_)
  intro y0 y1
  unfold impl_Gcd.l0
  repeat' with_reducible first
  | exact ih0 _ _ _
  | exact ih1 _ _
  | exact LeO.refl _
  | exact LeO.none _
  | refine LeO.ite ?_ ?_
  | refine LeO.bind ?_ (fun _ => ?_)
theorem impl_Gcd.mono : ∀ a0 a1 k, LeO (impl_Gcd.f k a0 a1) (impl_Gcd.f (k + 1) a0 a1) := by
 intro a0 a1 k
 obtain ⟨ih0, ih1⟩ := impl_Gcd.mono_l k
 unfold impl_Gcd.f
 repeat' with_reducible first
 | exact ih0 _ _ _
 | exact ih1 _ _
 | exact LeO.refl _
 | exact LeO.none _
 | refine LeO.ite ?_ ?_
 | refine LeO.bind ?_ (fun _ => ?_)
set_option maxHeartbeats 8000000 in
set_option maxRecDepth 100000 in
theorem impl_Gcd.calls (k : Nat) (a0 : Int) (a1 : Int) (r : Int) (w : World) (h : impl_Gcd.f k a0 a1 = some r) :
  Calls Try.prog 125 #[.int .i64 a0, .int .i64 a1] w fun e w' => e = .returned (.int .i64 r) ∧ Below w.heap.size w w' := by
 have HB := Aside0.mk (Below.refl w.heap.size w)
 have H : ((impl_coeffOk.f a0).bind fun t149 => (if t149 = true then ((impl_coeffOk.f a1).bind fun t150 => (impl_Gcd.j0 k a0 a1 (!t150))) else (impl_Gcd.j0 k a0 a1 true))) = some r := h
 clear h
 have HC3 := Aside0.mk H; clear H
 go_enter Try.func125, Try.ntmps125
 go_upto_region 1 with (fail)
 repeat (go_quiet (fail); go_upto_region 1 with (fail))
 go_cut [12] (fun v12 wc => ∃ (kq : Nat) (x12_2 : Bool), v12 = .bool x12_2 ∧ Aside0 (impl_Gcd.j0 kq a0 a1 x12_2 = some r) ∧ Aside0 (kq ≤ k) ∧ Aside0 (Below w.heap.size w wc))
 case first =>
  have H := HC3.out
  clear HC3
  obtain ⟨t149, A40, H⟩ := Option.bind_eq_some_iff.mp H
  try dsimp only at H
  have A4 := Aside0.mk A40; clear A40
  by_cases c5 : t149 = true
  ·subst c5
   rw [if_pos rfl] at H
   obtain ⟨t150, A60, H⟩ := Option.bind_eq_some_iff.mp H
   try dsimp only at H
   have A6 := Aside0.mk A60; clear A60
   have H' := Aside0.mk H
   clear H
   go_wp2_with (first | (go_at_call 122; (with_reducible refine (impl_coeffOk.calls a0 true _ A4.out).mono ?_); rintro e w' ⟨rfl, ⟨nd, rfl⟩⟩; (try first | exact ⟨rfl, _, World.drewN_drewN _ _ _⟩ | exact ⟨rfl, _, Eq.trans (World.drewN_drewN _ _ _) (congrArg (World.drewN _) (Nat.add_assoc _ _ _))⟩)) | (go_at_call 122; (with_reducible refine (impl_coeffOk.calls a1 t150 _ A6.out).mono ?_); rintro e w' ⟨rfl, ⟨nd, rfl⟩⟩; (try first | exact ⟨rfl, _, World.drewN_drewN _ _ _⟩ | exact ⟨rfl, _, Eq.trans (World.drewN_drewN _ _ _) (congrArg (World.drewN _) (Nat.add_assoc _ _ _))⟩)))
   repeat (go_quiet (fail); try go_wp2_with (fail))
   go_meet
   case rel => exact ⟨_, (!t150), (by first | rfl | (simp; done) | (simp [*]; done)), H', ⟨by first | omega | exact Nat.le_refl _⟩, ⟨ms HB⟩⟩
  replace c5 := Bool.eq_false_iff.mpr c5
  subst c5
  rw [if_neg (show ¬ (false = true) by decide)] at H
  have H' := Aside0.mk H
  clear H
  go_wp2_with ((go_at_call 122; (with_reducible refine (impl_coeffOk.calls a0 false _ A4.out).mono ?_); rintro e w' ⟨rfl, ⟨nd, rfl⟩⟩; (try first | exact ⟨rfl, _, World.drewN_drewN _ _ _⟩ | exact ⟨rfl, _, Eq.trans (World.drewN_drewN _ _ _) (congrArg (World.drewN _) (Nat.add_assoc _ _ _))⟩)))
  repeat (go_quiet (fail); try go_wp2_with (fail))
  go_meet
  case rel => exact ⟨_, (true), (by first | rfl | (simp; done) | (simp [*]; done)), H', ⟨by first | omega | exact Nat.le_refl _⟩, ⟨ms HB⟩⟩
 case rest =>
  clear HC3
  try clear c1
  try clear p2
  try clear c5
  obtain ⟨kq, x12_2, rfl, HA, HJ2, HB⟩ := hcut
  cases kq with
  | zero => exact absurd HA.out (by simp [impl_Gcd.j0])
  | succ kj2 =>
   have H := HA.out
   clear HA
   simp only [impl_Gcd.j0] at H
   by_cases c7 : x12_2 = true
   ·subst c7
    rw [if_pos rfl] at H
    obtain rfl := Option.some.inj H
    go_wp2
    repeat (go_quiet (fail); try go_wp2)
    go_ret
    exact ⟨by first | rfl | (simp [errW_none, errW_some] <;> rfl) | (simp [*, errW_none, errW_some] <;> rfl), ms HB⟩
   replace c7 := Bool.eq_false_iff.mpr c7
   subst c7
   rw [if_neg (show ¬ (false = true) by decide)] at H
   have H' := Aside0.mk H
   clear H
   go_wp2
   repeat (go_quiet (fail); try go_wp2)
   go_loopg [0, 1] kj2 (fun kq v0 v1 w' => ∃ (x0_2 : Int) (x1_2 : Int), v0 = .int .i64 x0_2 ∧ v1 = .int .i64 x1_2 ∧ Aside0 (impl_Gcd.l0 kq x0_2 x1_2 = some r) ∧ Aside0 (kq ≤ kj2) ∧ Aside0 (Below w.heap.size w w'))
   case atStart => exact ⟨(a0), (a1), (by first | rfl | (simp; done) | (simp [*]; done)), (by first | rfl | (simp; done) | (simp [*]; done)), H', ⟨Nat.le_refl _⟩, ⟨ms HB⟩⟩
   case round =>
    clear H'
    try clear c1
    try clear p2
    try clear c5
    try clear c7
    try clear p2
    obtain ⟨x0_2, x1_2, rfl, rfl, HA, HK2, HB⟩ := hrel
    cases gk with
    | zero => exact absurd HA.out (by simp [impl_Gcd.l0])
    | succ k2 =>
     have H := HA.out
     clear HA
     simp only [impl_Gcd.l0] at H
     by_cases c8 : x1_2 = 0
     ·rw [if_pos c8] at H
      have c8b0 : (x1_2 == 0) = true := beq_iff_eq.mpr c8
      have c8b1 : (x1_2 != 0) = false := bne_eq_false_iff_eq.mpr c8
      clear c8
      obtain ⟨ji9, hji9⟩ : ∃ j_ : Int, (mx x0_2 (wrap64 (-x0_2))) = j_ := ⟨_, rfl⟩
      replace H : (some ji9) = some r := by first | (rw [hji9] at H; exact H) | (simp only [hji9] at H ⊢; exact H)
      have hji9_ : (if x0_2 < (wrap64 (-x0_2)) then (wrap64 (-x0_2)) else x0_2) = ji9 := hji9
      obtain rfl := Option.some.inj H
      go_wp2
      repeat (go_quiet (fail); try go_wp2)
      go_ret
      exact ⟨by first | rfl | (simp [errW_none, errW_some] <;> rfl) | (simp only [← hji9]; first | rfl | (simp [errW_none, errW_some] <;> rfl)) | (simp [*, errW_none, errW_some] <;> rfl), ms HB⟩
     rw [if_neg c8] at H
     have c8b0 : (x1_2 == 0) = false := beq_eq_false_iff_ne.mpr c8
     have c8b1 : (x1_2 != 0) = true := bne_iff_ne.mpr c8
     have H' := Aside0.mk H
     clear H
     go_wp2
     repeat (go_quiet (fail); try go_wp2)
     go_roundg k2
     case measure => have := HJ2.out; have := HK2.out; omega
     case rel => exact ⟨(x1_2), (Int.tmod x0_2 x1_2), (by first | rfl | (simp; done) | (simp [*]; done)), (by first | rfl | (simp; done) | (simp [*]; done)), H', ⟨by have := HJ2.out; have := HK2.out; omega⟩, ⟨ms HB⟩⟩

end Go.Proofs.Ytlencemmlgkflaa.QFnEntailed
